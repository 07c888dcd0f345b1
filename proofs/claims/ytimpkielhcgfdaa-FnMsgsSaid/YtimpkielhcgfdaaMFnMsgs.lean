import Derived.Test.YtimpkielhcgfdaaProg
import Derived.Test.YtimpkielhcgfdaaAbsD
import Derived.KernelRfl
namespace Go.Abs
open Go.Proofs
set_option linter.unusedVariables false
set_option maxRecDepth 100000
noncomputable section
abbrev N : Nat := 1152921504606846976
abbrev R0 : RT := .one (.int .u8)
abbrev R1 : RT := .one (.int .i64)
noncomputable def tb : Tb := [(0, ⟨false, [], [], 0, 0⟩),
  (3, ⟨false, [(.int .i64)], [], 0, 8⟩),
  (4, ⟨false, [.bool], [], 0, 1⟩),
  (5, ⟨false, [(.int .u8)], [], 0, 1⟩),
  (9, ⟨false, [.str], [], 0, 16⟩),
  (22, ⟨false, [(.sl R1)], [], 3, 24⟩),
  (35, ⟨false, [(.sl R0)], [], 5, 24⟩),
  (51, ⟨true, [(.int .i64), (.int .i64), .bool, (.sl R1)], [(0, 3), (1, 3), (2, 4), (3, 22)], 0, 48⟩),
  (55, ⟨false, [], [], 0, 0⟩),
  (150, ⟨false, [], [], 0, 8⟩),
  (156, ⟨false, [], [], 0, 8⟩),
  (162, ⟨false, [], [], 0, 0⟩),
  (200, ⟨true, [(.sl R0), (.int .i64), (.int .i64)], [(0, 35), (1, 3), (2, 3)], 0, 40⟩)]
noncomputable def fsL : List (Nat × Func) := [(26, Try.f26), (107, Try.f107), (177, Try.f177), (109, Try.f109), (141, Try.f141), (110, Try.f110), (188, Try.f188), (134, Try.f134), (115, Try.f115), (34, Try.f34), (103, Try.f103), (119, Try.f119), (137, Try.f137), (180, Try.f180), (207, Try.f207), (179, Try.f179), (120, Try.f120), (37, Try.f37), (116, Try.f116), (35, Try.f35), (97, Try.f97), (126, Try.f126), (45, Try.f45), (117, Try.f117), (118, Try.f118), (36, Try.f36), (121, Try.f121), (122, Try.f122), (38, Try.f38), (43, Try.f43), (55, Try.f55), (135, Try.f135), (56, Try.f56), (57, Try.f57), (8, Try.f8)]
noncomputable def fs : Nat → Option Func := getF fsL
theorem MIX : Try.prog.follows .mixedOrders = true := by kernel_rfl
theorem TY : tyCheck Try.prog tb = true := by kernel_rfl
theorem CAT : catCheck tb = true := by kernel_rfl
theorem FSP : FsP Try.prog fsL := ⟨Try.func26, Try.func107, Try.func177, Try.func109, Try.func141, Try.func110, Try.func188, Try.func134, Try.func115, Try.func34, Try.func103, Try.func119, Try.func137, Try.func180, Try.func207, Try.func179, Try.func120, Try.func37, Try.func116, Try.func35, Try.func97, Try.func126, Try.func45, Try.func117, Try.func118, Try.func36, Try.func121, Try.func122, Try.func38, Try.func43, Try.func55, Try.func135, Try.func56, Try.func57, Try.func8, trivial⟩
theorem FSC : (fsL.all fun p => fnChk p.2) = true := by kernel_rfl
theorem FS : FsS Try.prog fs := FsS.of FSP FSC
/-! laws.big: function 26 -/
noncomputable def f_laws_big (x0 : List Int) : Option (Bool) :=
  some (decide ((1048576 : Int) < (x0.length : Int)))
noncomputable def C26 : Con := ⟨[(.B, false, [(.sl R0)])], [(false, [.bool])], [(.sl R0)], [.bool], fun (p : List Int) => f_laws_big p⟩
noncomputable abbrev K26 : Cons := []
noncomputable abbrev L26 : List (Nat × Loops) := []
abbrev Q26 : List (Nat × List (Int × Nat) × Nat) := []
noncomputable abbrev X26 : Nat → Ctx := ctxOf tb K26 L26 Q26
theorem E26 : ∀ x, funRun fs X26 6 26 C26 x = C26.fn x := fun x => by kernel_rfl
theorem B26 : ConB Try.prog 26 C26 := ConB.make FS MIX TY (cons := K26) (L := L26) (ptrs := Q26) trivial trivial trivial rfl rfl E26
theorem S26 : ConS Try.prog 26 C26 := B26.call rfl
/-! spec.l1Byte: function 177 -/
noncomputable def f_spec_l1Byte (x0 : List Int) (x1 : Int) (x2 : Int) : Option (Int × Int × Int) :=
  bif (decide (x1 < (x0.length : Int))) then
    bif ((decide ((0 : Int) ≤ x1)) && (decide (x1 < (x0.length : Int)))) then
    some ((bitI .and .i64 (IntKind.wrap .i64 ((bitI .and .i64 (bitI .xor .i64 (shrI .i64 (IntKind.wrap .i64 ((IntKind.wrap .i64 (x2 * (6364136223846793005 : Int))) + (1442695040888963407 : Int))) (33 : Int)) (shrI .i64 (IntKind.wrap .i64 ((IntKind.wrap .i64 (x2 * (6364136223846793005 : Int))) + (1442695040888963407 : Int))) (45 : Int))) (255 : Int)) + (IntKind.wrap .i64 ((x0.getD x1.toNat 0))))) (255 : Int)), (IntKind.wrap .i64 (x1 + (1 : Int))), (IntKind.wrap .i64 ((IntKind.wrap .i64 (x2 * (6364136223846793005 : Int))) + (1442695040888963407 : Int))))
    else none
  else
    some ((bitI .and .i64 (bitI .xor .i64 (shrI .i64 (IntKind.wrap .i64 ((IntKind.wrap .i64 (x2 * (6364136223846793005 : Int))) + (1442695040888963407 : Int))) (33 : Int)) (shrI .i64 (IntKind.wrap .i64 ((IntKind.wrap .i64 (x2 * (6364136223846793005 : Int))) + (1442695040888963407 : Int))) (45 : Int))) (255 : Int)), x1, (IntKind.wrap .i64 ((IntKind.wrap .i64 (x2 * (6364136223846793005 : Int))) + (1442695040888963407 : Int))))
noncomputable def C177 : Con := ⟨[(.P [false, true, true], false, [(.sl R0), (.int .i64), (.int .i64)])], [(false, [(.int .i64)])], [(.sl R0), (.int .i64), (.int .i64)], [(.int .i64), (.int .i64), (.int .i64)], fun (p : List Int × Int × Int) => f_spec_l1Byte p.1 p.2.1 p.2.2⟩
noncomputable abbrev K177 : Cons := []
noncomputable abbrev L177 : List (Nat × Loops) := []
abbrev Q177 : List (Nat × List (Int × Nat) × Nat) := []
noncomputable abbrev X177 : Nat → Ctx := ctxOf tb K177 L177 Q177
theorem E177 : ∀ x, funG fs X177 6 177 C177 x = C177.fn x := fun x => by kernel_rfl
theorem B177 : ConG Try.prog 177 C177 := ConG.make FS MIX TY (cons := K177) (L := L177) (ptrs := Q177) trivial trivial trivial rfl (by kernel_rfl) E177
theorem S177 : ConS Try.prog 177 C177 := B177.call (by kernel_rfl)
/-! spec.l1Below: function 109 -/
noncomputable def f_spec_l1Below (x0 : List Int) (x1 : Int) (x2 : Int) (x3 : Int) : Option (Int × Int × Int) :=
  bif (decide (x3 ≤ (0 : Int))) then
    some (0, x1, x2)
  else
    bif (decide (x3 ≤ (256 : Int))) then
      (f_spec_l1Byte x0 x1 x2).bind fun y1 =>
      bif (decide (x3 = (0 : Int))) then none else
      some ((Int.tmod y1.1 x3), y1.2.1, y1.2.2)
    else
      (f_spec_l1Byte x0 x1 x2).bind fun y2 =>
      (f_spec_l1Byte x0 y2.2.1 y2.2.2).bind fun y3 =>
      (f_spec_l1Byte x0 y3.2.1 y3.2.2).bind fun y4 =>
      (f_spec_l1Byte x0 y4.2.1 y4.2.2).bind fun y5 =>
      bif (decide (x3 = (0 : Int))) then none else
      some ((Int.tmod (IntKind.wrap .i64 ((IntKind.wrap .i64 ((IntKind.wrap .i64 ((IntKind.wrap .i64 (y2.1 * (16777216 : Int))) + (IntKind.wrap .i64 (y3.1 * (65536 : Int))))) + (IntKind.wrap .i64 (y4.1 * (256 : Int))))) + y5.1)) x3), y5.2.1, y5.2.2)
noncomputable def C109 : Con := ⟨[(.P [false, true, true], false, [(.sl R0), (.int .i64), (.int .i64)]), (.B, false, [(.int .i64)])], [(false, [(.int .i64)])], [(.sl R0), (.int .i64), (.int .i64), (.int .i64)], [(.int .i64), (.int .i64), (.int .i64)], fun (p : List Int × Int × Int × Int) => f_spec_l1Below p.1 p.2.1 p.2.2.1 p.2.2.2⟩
noncomputable abbrev K109 : Cons := [(177, C177)]
noncomputable abbrev L109 : List (Nat × Loops) := []
abbrev Q109 : List (Nat × List (Int × Nat) × Nat) := []
noncomputable abbrev X109 : Nat → Ctx := ctxOf tb K109 L109 Q109
theorem E109 : ∀ x, funG fs X109 6 109 C109 x = C109.fn x := fun x => by kernel_rfl
theorem B109 : ConG Try.prog 109 C109 := ConG.make FS MIX TY (cons := K109) (L := L109) (ptrs := Q109) ⟨S177, trivial⟩ trivial trivial rfl (by kernel_rfl) E109
theorem S109 : ConS Try.prog 109 C109 := B109.call (by kernel_rfl)
/-! spec.l1Once: function 141 -/
noncomputable def f_spec_l1Once (x0 : List Int) (x1 : Int) (x2 : Int) (x3 : Int) : Option (Bool × Int × Int) :=
  (f_spec_l1Below x0 x1 x2 x3).bind fun y6 =>
  some ((decide (y6.1 = (0 : Int))), y6.2.1, y6.2.2)
noncomputable def C141 : Con := ⟨[(.P [false, true, true], false, [(.sl R0), (.int .i64), (.int .i64)]), (.B, false, [(.int .i64)])], [(false, [.bool])], [(.sl R0), (.int .i64), (.int .i64), (.int .i64)], [.bool, (.int .i64), (.int .i64)], fun (p : List Int × Int × Int × Int) => f_spec_l1Once p.1 p.2.1 p.2.2.1 p.2.2.2⟩
noncomputable abbrev K141 : Cons := [(109, C109)]
noncomputable abbrev L141 : List (Nat × Loops) := []
abbrev Q141 : List (Nat × List (Int × Nat) × Nat) := []
noncomputable abbrev X141 : Nat → Ctx := ctxOf tb K141 L141 Q141
theorem E141 : ∀ x, funG fs X141 6 141 C141 x = C141.fn x := fun x => by kernel_rfl
theorem B141 : ConG Try.prog 141 C141 := ConG.make FS MIX TY (cons := K141) (L := L141) (ptrs := Q141) ⟨S109, trivial⟩ trivial trivial rfl (by kernel_rfl) E141
theorem S141 : ConS Try.prog 141 C141 := B141.call (by kernel_rfl)
/-! spec.l1PickInt: function 110 -/
noncomputable def f_spec_l1PickInt (x0 : List Int) (x1 : Int) (x2 : Int) (x3 : List Int) : Option (Int × Int × Int) :=
  (f_spec_l1Below x0 x1 x2 (x3.length : Int)).bind fun y7 =>
  bif ((decide ((0 : Int) ≤ y7.1)) && (decide (y7.1 < (x3.length : Int)))) then
  some ((x3.getD y7.1.toNat 0), y7.2.1, y7.2.2)
  else none
noncomputable def C110 : Con := ⟨[(.P [false, true, true], false, [(.sl R0), (.int .i64), (.int .i64)]), (.B, false, [(.sl R1)])], [(false, [(.int .i64)])], [(.sl R0), (.int .i64), (.int .i64), (.sl R1)], [(.int .i64), (.int .i64), (.int .i64)], fun (p : List Int × Int × Int × List Int) => f_spec_l1PickInt p.1 p.2.1 p.2.2.1 p.2.2.2⟩
noncomputable abbrev K110 : Cons := [(109, C109)]
noncomputable abbrev L110 : List (Nat × Loops) := []
abbrev Q110 : List (Nat × List (Int × Nat) × Nat) := []
noncomputable abbrev X110 : Nat → Ctx := ctxOf tb K110 L110 Q110
theorem E110 : ∀ x, funG fs X110 6 110 C110 x = C110.fn x := fun x => by kernel_rfl
theorem B110 : ConG Try.prog 110 C110 := ConG.make FS MIX TY (cons := K110) (L := L110) (ptrs := Q110) ⟨S109, trivial⟩ trivial trivial rfl (by kernel_rfl) E110
theorem S110 : ConS Try.prog 110 C110 := B110.call (by kernel_rfl)
/-! spec.l1DrawList: function 188 -/
noncomputable def f_spec_l1DrawList.l0 : Nat → Int → (List Int) → Int → Int → (List Int) → Option (List Int × Int × Int × List Int)
  | 0, _, _, _, _, _ => none
  | n + 1, p8, p9, p10, p11, p12 =>
    bif (decide (p8 < (4 : Int))) then
      (f_spec_l1PickInt p9 p10 p11 ([0, 1, 5, 300, 65535] : List Int)).bind fun y13 =>
      bif (Nat.blt (p12.length + ([y13.1] : List Int).length) 17592186044416) then
      (some ((p12 ++ ([y13.1] : List Int)) : List Int)).bind fun z14 =>
      f_spec_l1DrawList.l0 n (IntKind.wrap .i64 (p8 + (1 : Int))) p9 y13.2.1 y13.2.2 z14
      else none
    else
      some (p9, p10, p11, p12)
noncomputable def f_spec_l1DrawList (x0 : List Int) (x1 : Int) (x2 : Int) : Option (List Int × Int × Int) :=
  (f_spec_l1DrawList.l0 N 0 x0 x1 x2 ([] : List Int)).bind fun r15 =>
  some (r15.2.2.2, r15.2.1, r15.2.2.1)
noncomputable def C188 : Con := ⟨[(.P [false, true, true], false, [(.sl R0), (.int .i64), (.int .i64)])], [(false, [(.sl R1)])], [(.sl R0), (.int .i64), (.int .i64)], [(.sl R1), (.int .i64), (.int .i64)], fun (p : List Int × Int × Int) => f_spec_l1DrawList p.1 p.2.1 p.2.2⟩
noncomputable def f_spec_l1DrawList.l0.c : LoopCon := ⟨1000, 6, [0, 2, 3, 4], ⟨[(0, .ptr 500 0), (2, .nil (some R1)), (3, .ref 1000 [] none), (4, .int .i64 0)], [(500, .box [.bor (some 0) R0 [], .int .i64 0, .int .i64 0]), (1000, .row R1 [])], 1001⟩, [(.int .i64), (.sl R0), (.int .i64), (.int .i64), (.sl R1)], [⟨.exit 0, [2, 3], ⟨[(2, .nil (some R1)), (3, .ref 1000 [] none)], [(500, .box [.bor (some 0) R0 [], .int .i64 0, .int .i64 0]), (1000, .row R1 [])], 1001⟩, [(.sl R0), (.int .i64), (.int .i64), (.sl R1)]⟩], fun (p : Int × List Int × Int × Int × List Int) => f_spec_l1DrawList.l0 N p.1 p.2.1 p.2.2.1 p.2.2.2.1 p.2.2.2.2⟩
noncomputable abbrev K188 : Cons := [(110, C110)]
noncomputable abbrev L188 : List (Nat × Loops) := [(188, [(3, f_spec_l1DrawList.l0.c)])]
abbrev Q188 : List (Nat × List (Int × Nat) × Nat) := []
noncomputable abbrev X188 : Nat → Ctx := ctxOf tb K188 L188 Q188
theorem f_spec_l1DrawList.l0.ok : ∀ n p, (fun (p : Int × List Int × Int × Int × List Int) => f_spec_l1DrawList.l0 n p.1 p.2.1 p.2.2.1 p.2.2.2.1 p.2.2.2.2) p = iterD (roundOf fs X188 6 188 3 false f_spec_l1DrawList.l0.c) n p :=
  iter_of (l := fun n => fun (p : Int × List Int × Int × Int × List Int) => f_spec_l1DrawList.l0 n p.1 p.2.1 p.2.2.1 p.2.2.2.1 p.2.2.2.2) (fun _ => rfl) (fun n p => by kernel_rfl)
theorem E188 : ∀ x, funG fs X188 6 188 C188 x = C188.fn x := fun x => by kernel_rfl
theorem B188 : ConG Try.prog 188 C188 := ConG.make FS MIX TY (cons := K188) (L := L188) (ptrs := Q188) ⟨S110, trivial⟩ trivial ⟨⟨⟨N, fun p => f_spec_l1DrawList.l0.ok N p⟩, trivial⟩, trivial⟩ rfl (by kernel_rfl) E188
theorem S188 : ConS Try.prog 188 C188 := B188.call (by kernel_rfl)
/-! spec.l1DrawRight: function 134 -/
noncomputable def f_spec_l1DrawRight (x0 : List Int) (x1 : Int) (x2 : Int) : Option (Int × Int × Bool × List Int × Int × Int) :=
  (f_spec_l1Below x0 x1 x2 7).bind fun y16 =>
  (f_spec_l1Below x0 y16.2.1 y16.2.2 6).bind fun y17 =>
  bif (decide ((IntKind.wrap .i64 ((1 : Int) + y16.1)) = (3 : Int))) then
    (f_spec_l1Once x0 y17.2.1 y17.2.2 2).bind fun y18 =>
    bif (decide ((IntKind.wrap .i64 ((1 : Int) + y16.1)) = (3 : Int))) then
      (f_spec_l1DrawList x0 y18.2.1 y18.2.2).bind fun y19 =>
      some ((IntKind.wrap .i64 ((1 : Int) + y16.1)), y17.1, y18.1, y19.1, y19.2.1, y19.2.2)
    else
      bif (decide ((IntKind.wrap .i64 ((1 : Int) + y16.1)) = (7 : Int))) then
        (f_spec_l1DrawList x0 y18.2.1 y18.2.2).bind fun y20 =>
        some ((IntKind.wrap .i64 ((1 : Int) + y16.1)), y17.1, y18.1, y20.1, y20.2.1, y20.2.2)
      else
        some ((IntKind.wrap .i64 ((1 : Int) + y16.1)), y17.1, y18.1, [], y18.2.1, y18.2.2)
  else
    bif (decide ((IntKind.wrap .i64 ((1 : Int) + y16.1)) = (6 : Int))) then
      (f_spec_l1Once x0 y17.2.1 y17.2.2 2).bind fun y21 =>
      bif (decide ((IntKind.wrap .i64 ((1 : Int) + y16.1)) = (3 : Int))) then
        (f_spec_l1DrawList x0 y21.2.1 y21.2.2).bind fun y22 =>
        some ((IntKind.wrap .i64 ((1 : Int) + y16.1)), y17.1, y21.1, y22.1, y22.2.1, y22.2.2)
      else
        bif (decide ((IntKind.wrap .i64 ((1 : Int) + y16.1)) = (7 : Int))) then
          (f_spec_l1DrawList x0 y21.2.1 y21.2.2).bind fun y23 =>
          some ((IntKind.wrap .i64 ((1 : Int) + y16.1)), y17.1, y21.1, y23.1, y23.2.1, y23.2.2)
        else
          some ((IntKind.wrap .i64 ((1 : Int) + y16.1)), y17.1, y21.1, [], y21.2.1, y21.2.2)
    else
      bif (decide ((IntKind.wrap .i64 ((1 : Int) + y16.1)) = (3 : Int))) then
        (f_spec_l1DrawList x0 y17.2.1 y17.2.2).bind fun y24 =>
        some ((IntKind.wrap .i64 ((1 : Int) + y16.1)), y17.1, false, y24.1, y24.2.1, y24.2.2)
      else
        bif (decide ((IntKind.wrap .i64 ((1 : Int) + y16.1)) = (7 : Int))) then
          (f_spec_l1DrawList x0 y17.2.1 y17.2.2).bind fun y25 =>
          some ((IntKind.wrap .i64 ((1 : Int) + y16.1)), y17.1, false, y25.1, y25.2.1, y25.2.2)
        else
          some ((IntKind.wrap .i64 ((1 : Int) + y16.1)), y17.1, false, [], y17.2.1, y17.2.2)
noncomputable def C134 : Con := ⟨[(.P [false, true, true], false, [(.sl R0), (.int .i64), (.int .i64)])], [(true, [(.int .i64), (.int .i64), .bool, (.sl R1)])], [(.sl R0), (.int .i64), (.int .i64)], [(.int .i64), (.int .i64), .bool, (.sl R1), (.int .i64), (.int .i64)], fun (p : List Int × Int × Int) => f_spec_l1DrawRight p.1 p.2.1 p.2.2⟩
noncomputable abbrev K134 : Cons := [(109, C109), (141, C141), (188, C188)]
noncomputable abbrev L134 : List (Nat × Loops) := []
abbrev Q134 : List (Nat × List (Int × Nat) × Nat) := []
noncomputable abbrev X134 : Nat → Ctx := ctxOf tb K134 L134 Q134
theorem E134 : ∀ x, funG fs X134 6 134 C134 x = C134.fn x := fun x => by kernel_rfl
theorem B134 : ConG Try.prog 134 C134 := ConG.make FS MIX TY (cons := K134) (L := L134) (ptrs := Q134) ⟨S109, S141, S188, trivial⟩ trivial trivial rfl (by kernel_rfl) E134
theorem S134 : ConS Try.prog 134 C134 := B134.call (by kernel_rfl)
/-! spec.l1Draw: function 115 -/
noncomputable def f_spec_l1Draw (x0 : List Int) (x1 : Int) (x2 : Int) : Option (Int × Int × Bool × List Int × Int × Int) :=
  (f_spec_l1DrawRight x0 x1 x2).bind fun y26 =>
  (f_spec_l1Below x0 y26.2.2.2.2.1 y26.2.2.2.2.2 12).bind fun y27 =>
  bif (decide (y27.1 = (0 : Int))) then
    (f_spec_l1Below x0 y27.2.1 y27.2.2 9).bind fun y28 =>
    some (y28.1, y26.2.1, y26.2.2.1, y26.2.2.2.1, y28.2.1, y28.2.2)
  else
    bif (decide (y27.1 = (1 : Int))) then
      (f_spec_l1PickInt x0 y27.2.1 y27.2.2 ([-1, 6] : List Int)).bind fun y29 =>
      some (y26.1, y29.1, y26.2.2.1, y26.2.2.2.1, y29.2.1, y29.2.2)
    else
      bif (decide (y27.1 = (2 : Int))) then
        some (y26.1, y26.2.1, (!y26.2.2.1), y26.2.2.2.1, y27.2.1, y27.2.2)
      else
        bif (decide (y27.1 = (3 : Int))) then
          (f_spec_l1PickInt x0 y27.2.1 y27.2.2 ([-1, 3, 65536] : List Int)).bind fun y30 =>
          bif (Nat.blt (y26.2.2.2.1.length + ([y30.1] : List Int).length) 17592186044416) then
          (some ((y26.2.2.2.1 ++ ([y30.1] : List Int)) : List Int)).bind fun z31 =>
          some (y26.1, y26.2.1, y26.2.2.1, z31, y30.2.1, y30.2.2)
          else none
        else
          some (y26.1, y26.2.1, y26.2.2.1, y26.2.2.2.1, y27.2.1, y27.2.2)
noncomputable def C115 : Con := ⟨[(.P [false, true, true], false, [(.sl R0), (.int .i64), (.int .i64)])], [(true, [(.int .i64), (.int .i64), .bool, (.sl R1)])], [(.sl R0), (.int .i64), (.int .i64)], [(.int .i64), (.int .i64), .bool, (.sl R1), (.int .i64), (.int .i64)], fun (p : List Int × Int × Int) => f_spec_l1Draw p.1 p.2.1 p.2.2⟩
noncomputable abbrev K115 : Cons := [(109, C109), (110, C110), (134, C134)]
noncomputable abbrev L115 : List (Nat × Loops) := []
abbrev Q115 : List (Nat × List (Int × Nat) × Nat) := []
noncomputable abbrev X115 : Nat → Ctx := ctxOf tb K115 L115 Q115
theorem E115 : ∀ x, funG fs X115 6 115 C115 x = C115.fn x := fun x => by kernel_rfl
theorem B115 : ConG Try.prog 115 C115 := ConG.make FS MIX TY (cons := K115) (L := L115) (ptrs := Q115) ⟨S109, S110, S134, trivial⟩ trivial trivial rfl (by kernel_rfl) E115
theorem S115 : ConS Try.prog 115 C115 := B115.call (by kernel_rfl)
/-! spec.DrawMsgBytes: function 34 -/
noncomputable def f_spec_DrawMsgBytes.l0 : Nat → (List Int) → Int → Int → Int → Int → Bool → Option (List Int × Int × Int × Int × Bool)
  | 0, _, _, _, _, _, _ => none
  | n + 1, p32, p33, p34, p35, p36, p37 =>
    bif (decide (p34 < (p32.length : Int))) then
      bif (decide (p34 < (4000 : Int))) then
        bif ((decide ((0 : Int) ≤ p34)) && (decide (p34 < (p32.length : Int)))) then
        f_spec_DrawMsgBytes.l0 n p32 (bitI .and .i64 (IntKind.wrap .i64 ((IntKind.wrap .i64 ((IntKind.wrap .i64 (p33 * (131 : Int))) + (IntKind.wrap .i64 ((p32.getD p34.toNat 0))))) + (7 : Int))) (1073741823 : Int)) (IntKind.wrap .i64 (p34 + (1 : Int))) p35 p36 p37
        else none
      else
        some (p32, p33, p35, p36, p37)
    else
      some (p32, p33, p35, p36, p37)
noncomputable def f_spec_DrawMsgBytes (x0 : List Int) : Option (Int × Int × Bool × List Int) :=
  (f_spec_DrawMsgBytes.l0 N x0 (IntKind.wrap .i64 ((20404 : Int) + (x0.length : Int))) 0 0 0 false).bind fun r38 =>
  (f_spec_l1Draw r38.1 0 r38.2.1).bind fun y39 =>
  some (y39.1, y39.2.1, y39.2.2.1, y39.2.2.2.1)
noncomputable def C34 : Con := ⟨[(.B, false, [(.sl R0)])], [(true, [(.int .i64), (.int .i64), .bool, (.sl R1)])], [(.sl R0)], [(.int .i64), (.int .i64), .bool, (.sl R1)], fun (p : List Int) => f_spec_DrawMsgBytes p⟩
noncomputable def f_spec_DrawMsgBytes.l0.c : LoopCon := ⟨1081, 5, [0, 3, 4], ⟨[(0, .bor none R0 []), (3, .int .i64 0), (4, .int .i64 0)], [(1001, .box [.int .i64 0, .int .i64 0, .bool false, .nil (some R1)])], 1081⟩, [(.sl R0), (.int .i64), (.int .i64), (.int .i64), (.int .i64), .bool], [⟨.exit 0, [0, 3], ⟨[(0, .bor none R0 []), (3, .int .i64 0)], [(1001, .box [.int .i64 0, .int .i64 0, .bool false, .nil (some R1)])], 1081⟩, [(.sl R0), (.int .i64), (.int .i64), (.int .i64), .bool]⟩], fun (p : List Int × Int × Int × Int × Int × Bool) => f_spec_DrawMsgBytes.l0 N p.1 p.2.1 p.2.2.1 p.2.2.2.1 p.2.2.2.2.1 p.2.2.2.2.2⟩
noncomputable abbrev K34 : Cons := [(115, C115)]
noncomputable abbrev L34 : List (Nat × Loops) := [(107, [(3, f_spec_DrawMsgBytes.l0.c)])]
abbrev Q34 : List (Nat × List (Int × Nat) × Nat) := []
noncomputable abbrev X34 : Nat → Ctx := ctxOf tb K34 L34 Q34
theorem f_spec_DrawMsgBytes.l0.ok : ∀ n p, (fun (p : List Int × Int × Int × Int × Int × Bool) => f_spec_DrawMsgBytes.l0 n p.1 p.2.1 p.2.2.1 p.2.2.2.1 p.2.2.2.2.1 p.2.2.2.2.2) p = iterD (roundOf fs X34 5 107 3 true f_spec_DrawMsgBytes.l0.c) n p :=
  iter_of (l := fun n => fun (p : List Int × Int × Int × Int × Int × Bool) => f_spec_DrawMsgBytes.l0 n p.1 p.2.1 p.2.2.1 p.2.2.2.1 p.2.2.2.2.1 p.2.2.2.2.2) (fun _ => rfl) (fun n p => by kernel_rfl)
theorem E34 : ∀ x, funRun fs X34 6 34 C34 x = C34.fn x := fun x => by kernel_rfl
theorem B34 : ConB Try.prog 34 C34 := ConB.make FS MIX TY (cons := K34) (L := L34) (ptrs := Q34) ⟨S115, trivial⟩ trivial ⟨⟨⟨N, fun p => f_spec_DrawMsgBytes.l0.ok N p⟩, trivial⟩, trivial⟩ rfl rfl E34
theorem S34 : ConS Try.prog 34 C34 := B34.call rfl
/-! impl.from: function 103 -/
noncomputable def f_impl_from (x0 : Int) (x1 : Int) (x2 : Int) : Option (Bool) :=
  bif (decide (x1 ≤ x0)) then
    some (decide (x0 ≤ x2))
  else
    some false
noncomputable def C103 : Con := ⟨[(.B, false, [(.int .i64)]), (.B, false, [(.int .i64)]), (.B, false, [(.int .i64)])], [(false, [.bool])], [(.int .i64), (.int .i64), (.int .i64)], [.bool], fun (p : Int × Int × Int) => f_impl_from p.1 p.2.1 p.2.2⟩
noncomputable abbrev K103 : Cons := []
noncomputable abbrev L103 : List (Nat × Loops) := []
abbrev Q103 : List (Nat × List (Int × Nat) × Nat) := []
noncomputable abbrev X103 : Nat → Ctx := ctxOf tb K103 L103 Q103
theorem E103 : ∀ x, funRun fs X103 6 103 C103 x = C103.fn x := fun x => by kernel_rfl
theorem B103 : ConB Try.prog 103 C103 := ConB.make FS MIX TY (cons := K103) (L := L103) (ptrs := Q103) trivial trivial trivial rfl rfl E103
theorem S103 : ConS Try.prog 103 C103 := B103.call rfl
/-! impl.isPage: function 119 -/
noncomputable def f_impl_isPage (x0 : Int) : Option (Bool) :=
  (f_impl_from x0 0 5).bind fun y40 =>
  some y40
noncomputable def C119 : Con := ⟨[(.B, false, [(.int .i64)])], [(false, [.bool])], [(.int .i64)], [.bool], fun (p : Int) => f_impl_isPage p⟩
noncomputable abbrev K119 : Cons := [(103, C103)]
noncomputable abbrev L119 : List (Nat × Loops) := []
abbrev Q119 : List (Nat × List (Int × Nat) × Nat) := []
noncomputable abbrev X119 : Nat → Ctx := ctxOf tb K119 L119 Q119
theorem E119 : ∀ x, funRun fs X119 6 119 C119 x = C119.fn x := fun x => by kernel_rfl
theorem B119 : ConB Try.prog 119 C119 := ConB.make FS MIX TY (cons := K119) (L := L119) (ptrs := Q119) ⟨S103, trivial⟩ trivial trivial rfl rfl E119
theorem S119 : ConS Try.prog 119 C119 := B119.call rfl
/-! impl.isWord: function 137 -/
noncomputable def f_impl_isWord (x0 : Int) : Option (Bool) :=
  (f_impl_from x0 0 65535).bind fun y41 =>
  some y41
noncomputable def C137 : Con := ⟨[(.B, false, [(.int .i64)])], [(false, [.bool])], [(.int .i64)], [.bool], fun (p : Int) => f_impl_isWord p⟩
noncomputable abbrev K137 : Cons := [(103, C103)]
noncomputable abbrev L137 : List (Nat × Loops) := []
abbrev Q137 : List (Nat × List (Int × Nat) × Nat) := []
noncomputable abbrev X137 : Nat → Ctx := ctxOf tb K137 L137 Q137
theorem E137 : ∀ x, funRun fs X137 6 137 C137 x = C137.fn x := fun x => by kernel_rfl
theorem B137 : ConB Try.prog 137 C137 := ConB.make FS MIX TY (cons := K137) (L := L137) (ptrs := Q137) ⟨S103, trivial⟩ trivial trivial rfl rfl E137
theorem S137 : ConS Try.prog 137 C137 := B137.call rfl
/-! impl.wordsOk$1: function 180 -/
noncomputable def f_impl_wordsOk_1 (x0 : Int) : Option (Bool) :=
  (f_impl_isWord x0).bind fun y42 =>
  some (!y42)
noncomputable def C180 : Con := ⟨[(.B, false, [(.int .i64)])], [(false, [.bool])], [(.int .i64)], [.bool], fun (p : Int) => f_impl_wordsOk_1 p⟩
noncomputable abbrev K180 : Cons := [(137, C137)]
noncomputable abbrev L180 : List (Nat × Loops) := []
abbrev Q180 : List (Nat × List (Int × Nat) × Nat) := []
noncomputable abbrev X180 : Nat → Ctx := ctxOf tb K180 L180 Q180
theorem E180 : ∀ x, funRun fs X180 6 180 C180 x = C180.fn x := fun x => by kernel_rfl
theorem B180 : ConB Try.prog 180 C180 := ConB.make FS MIX TY (cons := K180) (L := L180) (ptrs := Q180) ⟨S137, trivial⟩ trivial trivial rfl rfl E180
theorem S180 : ConS Try.prog 180 C180 := B180.call rfl
/-! impl.wordsOk: function 120 -/
noncomputable def f_impl_wordsOk.l0 : Nat → (List Int) → Int → Int → Int → Option ((Int) ⊕ (Int))
  | 0, _, _, _, _ => none
  | n + 1, p43, p44, p45, p46 =>
    bif (decide (p46 < p45)) then
      bif ((decide ((0 : Int) ≤ p46)) && (decide (p46 < (p43.length : Int)))) then
      (f_impl_wordsOk_1 (p43.getD p46.toNat 0)).bind fun y47 =>
      bif y47 then
        some (.inl p46)
      else
        f_impl_wordsOk.l0 n p43 p44 p45 (IntKind.wrap .i64 (p46 + (1 : Int)))
      else none
    else
      some (.inr p44)
noncomputable def f_impl_wordsOk (x0 : List Int) (x1 : Int) : Option (Bool) :=
  bif (decide ((x0.length : Int) = x1)) then
    (f_impl_wordsOk.l0 N x0 0 (x0.length : Int) 0).bind fun r48 =>
    cs r48 (fun a49 =>
      some (!(decide ((0 : Int) ≤ a49)))) (fun b50 =>
      some true)
  else
    some false
noncomputable def C120 : Con := ⟨[(.B, false, [(.sl R1)]), (.B, false, [(.int .i64)])], [(false, [.bool])], [(.sl R1), (.int .i64)], [.bool], fun (p : List Int × Int) => f_impl_wordsOk p.1 p.2⟩
noncomputable def f_impl_wordsOk.l0.c : LoopCon := ⟨1274, 4, [0, 1, 4, 7, 8], ⟨[(0, .bor none R1 []), (1, .func 180 []), (4, .int .i64 0), (7, .int .i64 0), (8, .int .i64 0)], [], 1274⟩, [(.sl R1), (.int .i64), (.int .i64), (.int .i64)], [⟨.ret, [4], ⟨[(4, .int .i64 0)], [], 1274⟩, [(.int .i64)]⟩, ⟨.exit 0, [4], ⟨[(4, .int .i64 0)], [], 1274⟩, [(.int .i64)]⟩], fun (p : List Int × Int × Int × Int) => f_impl_wordsOk.l0 N p.1 p.2.1 p.2.2.1 p.2.2.2⟩
noncomputable abbrev K120 : Cons := [(180, C180)]
noncomputable abbrev L120 : List (Nat × Loops) := [(207, [(2, f_impl_wordsOk.l0.c)])]
abbrev Q120 : List (Nat × List (Int × Nat) × Nat) := []
noncomputable abbrev X120 : Nat → Ctx := ctxOf tb K120 L120 Q120
theorem f_impl_wordsOk.l0.ok : ∀ n p, (fun (p : List Int × Int × Int × Int) => f_impl_wordsOk.l0 n p.1 p.2.1 p.2.2.1 p.2.2.2) p = iterD (roundOf fs X120 4 207 2 true f_impl_wordsOk.l0.c) n p :=
  iter_of (l := fun n => fun (p : List Int × Int × Int × Int) => f_impl_wordsOk.l0 n p.1 p.2.1 p.2.2.1 p.2.2.2) (fun _ => rfl) (fun n p => by kernel_rfl)
theorem E120 : ∀ x, funRun fs X120 6 120 C120 x = C120.fn x := fun x => by kernel_rfl
theorem B120 : ConB Try.prog 120 C120 := ConB.make FS MIX TY (cons := K120) (L := L120) (ptrs := Q120) ⟨S180, trivial⟩ trivial ⟨⟨⟨N, fun p => f_impl_wordsOk.l0.ok N p⟩, trivial⟩, trivial⟩ rfl rfl E120
theorem S120 : ConS Try.prog 120 C120 := B120.call rfl
/-! impl.MsgOk: function 37 -/
noncomputable def f_impl_MsgOk (x0 : Int) (x1 : Int) (x2 : Bool) (x3 : List Int) : Option (Bool) :=
  (f_impl_from x0 1 7).bind fun y51 =>
  bif (!y51) then
    some false
  else
    (f_impl_isPage x1).bind fun y52 =>
    bif (!y52) then
      some false
    else
      bif x2 then
        bif (!(decide (x0 = (3 : Int)))) then
          bif (!(decide (x0 = (6 : Int)))) then
            some false
          else
            bif (decide (x0 = (3 : Int))) then
              (f_impl_wordsOk x3 4).bind fun y53 =>
              some y53
            else
              bif (decide (x0 = (7 : Int))) then
                (f_impl_wordsOk x3 4).bind fun y54 =>
                some y54
              else
                some (decide ((x3.length : Int) = (0 : Int)))
        else
          bif (decide (x0 = (3 : Int))) then
            (f_impl_wordsOk x3 4).bind fun y55 =>
            some y55
          else
            bif (decide (x0 = (7 : Int))) then
              (f_impl_wordsOk x3 4).bind fun y56 =>
              some y56
            else
              some (decide ((x3.length : Int) = (0 : Int)))
      else
        bif (decide (x0 = (3 : Int))) then
          (f_impl_wordsOk x3 4).bind fun y57 =>
          some y57
        else
          bif (decide (x0 = (7 : Int))) then
            (f_impl_wordsOk x3 4).bind fun y58 =>
            some y58
          else
            some (decide ((x3.length : Int) = (0 : Int)))
noncomputable def C37 : Con := ⟨[(.B, true, [(.int .i64), (.int .i64), .bool, (.sl R1)])], [(false, [.bool])], [(.int .i64), (.int .i64), .bool, (.sl R1)], [.bool], fun (p : Int × Int × Bool × List Int) => f_impl_MsgOk p.1 p.2.1 p.2.2.1 p.2.2.2⟩
noncomputable abbrev K37 : Cons := [(103, C103), (119, C119), (120, C120)]
noncomputable abbrev L37 : List (Nat × Loops) := []
abbrev Q37 : List (Nat × List (Int × Nat) × Nat) := []
noncomputable abbrev X37 : Nat → Ctx := ctxOf tb K37 L37 Q37
theorem E37 : ∀ x, funRun fs X37 6 37 C37 x = C37.fn x := fun x => by kernel_rfl
theorem B37 : ConB Try.prog 37 C37 := ConB.make FS MIX TY (cons := K37) (L := L37) (ptrs := Q37) ⟨S103, S119, S120, trivial⟩ trivial trivial rfl rfl E37
theorem S37 : ConS Try.prog 37 C37 := B37.call rfl
/-! impl.PutNum: function 116 -/
noncomputable def f_impl_PutNum.l0 : Nat → Int → (List Int) → Option (Int × List Int)
  | 0, _, _ => none
  | n + 1, p60, p61 =>
    bif (decide ((127 : Int) < p60)) then
      bif (Nat.blt (p61.length + ([(IntKind.wrap .u8 ((IntKind.wrap .i64 ((Int.tmod p60 (128 : Int)) + (128 : Int)))))] : List Int).length) 140737488355328) then
      (some ((p61 ++ ([(IntKind.wrap .u8 ((IntKind.wrap .i64 ((Int.tmod p60 (128 : Int)) + (128 : Int)))))] : List Int)) : List Int)).bind fun z62 =>
      f_impl_PutNum.l0 n (IntKind.wrap .i64 (Int.tdiv p60 (128 : Int))) z62
      else none
    else
      some (p60, p61)
noncomputable def f_impl_PutNum (x0 : Int) : Option (List Int) :=
  (f_impl_from x0 0 100000).bind fun y59 =>
  bif (!y59) then
    some []
  else
    (f_impl_PutNum.l0 N x0 ([] : List Int)).bind fun r63 =>
    bif (Nat.blt (r63.2.length + ([(IntKind.wrap .u8 (r63.1))] : List Int).length) 140737488355328) then
    (some ((r63.2 ++ ([(IntKind.wrap .u8 (r63.1))] : List Int)) : List Int)).bind fun z64 =>
    some z64
    else none
noncomputable def C116 : Con := ⟨[(.B, false, [(.int .i64)])], [(false, [(.sl R0)])], [(.int .i64)], [(.sl R0)], fun (p : Int) => f_impl_PutNum p⟩
noncomputable def f_impl_PutNum.l0.c : LoopCon := ⟨1000, 6, [0, 2, 3], ⟨[(0, .int .i64 0), (2, .nil (some R0)), (3, .ref 1000 [] none)], [(1000, .row R0 [])], 1001⟩, [(.int .i64), (.sl R0)], [⟨.exit 0, [0, 2, 3], ⟨[(0, .int .i64 0), (2, .nil (some R0)), (3, .ref 1000 [] none)], [(1000, .row R0 [])], 1001⟩, [(.int .i64), (.sl R0)]⟩], fun (p : Int × List Int) => f_impl_PutNum.l0 N p.1 p.2⟩
noncomputable abbrev K116 : Cons := [(103, C103)]
noncomputable abbrev L116 : List (Nat × Loops) := [(116, [(4, f_impl_PutNum.l0.c)])]
abbrev Q116 : List (Nat × List (Int × Nat) × Nat) := []
noncomputable abbrev X116 : Nat → Ctx := ctxOf tb K116 L116 Q116
theorem f_impl_PutNum.l0.ok : ∀ n p, (fun (p : Int × List Int) => f_impl_PutNum.l0 n p.1 p.2) p = iterD (roundOf fs X116 6 116 4 false f_impl_PutNum.l0.c) n p :=
  iter_of (l := fun n => fun (p : Int × List Int) => f_impl_PutNum.l0 n p.1 p.2) (fun _ => rfl) (fun n p => by kernel_rfl)
theorem E116 : ∀ x, funRun fs X116 6 116 C116 x = C116.fn x := fun x => by kernel_rfl
theorem B116 : ConB Try.prog 116 C116 := ConB.make FS MIX TY (cons := K116) (L := L116) (ptrs := Q116) ⟨S103, trivial⟩ trivial ⟨⟨⟨N, fun p => f_impl_PutNum.l0.ok N p⟩, trivial⟩, trivial⟩ rfl rfl E116
theorem S116 : ConS Try.prog 116 C116 := B116.call rfl
/-! impl.MsgBytes: function 35 -/
noncomputable def f_impl_MsgBytes.l0 : Nat → Int → Int → (List Int) → (List Int) → Option (List Int)
  | 0, _, _, _, _ => none
  | n + 1, p67, p68, p69, p70 =>
    bif (decide (p68 < p67)) then
      bif ((decide ((0 : Int) ≤ p68)) && (decide (p68 < (p70.length : Int)))) then
      (f_impl_PutNum (p70.getD p68.toNat 0)).bind fun y71 =>
      bif (Nat.blt (p69.length + y71.length) 140737488355328) then
      (some ((p69 ++ y71) : List Int)).bind fun z72 =>
      f_impl_MsgBytes.l0 n p67 (IntKind.wrap .i64 (p68 + (1 : Int))) z72 p70
      else none
      else none
    else
      some p69
noncomputable def f_impl_MsgBytes (x0 : Int) (x1 : Int) (x2 : Bool) (x3 : List Int) : Option (List Int) :=
  (f_impl_MsgOk x0 x1 x2 x3).bind fun y65 =>
  bif (!y65) then
    some []
  else
    bif x2 then
      bif (Nat.blt (([x0, x1, 1] : List Int).length + x3.length) 17592186044416) then
      (some ((([x0, x1, 1] : List Int) ++ x3) : List Int)).bind fun z66 =>
      (f_impl_MsgBytes.l0 N (z66.length : Int) 0 ([] : List Int) z66).bind fun r73 =>
      some r73
      else none
    else
      bif (Nat.blt (([x0, x1, 0] : List Int).length + x3.length) 17592186044416) then
      (some ((([x0, x1, 0] : List Int) ++ x3) : List Int)).bind fun z74 =>
      (f_impl_MsgBytes.l0 N (z74.length : Int) 0 ([] : List Int) z74).bind fun r75 =>
      some r75
      else none
noncomputable def C35 : Con := ⟨[(.B, true, [(.int .i64), (.int .i64), .bool, (.sl R1)])], [(false, [(.sl R0)])], [(.int .i64), (.int .i64), .bool, (.sl R1)], [(.sl R0)], fun (p : Int × Int × Bool × List Int) => f_impl_MsgBytes p.1 p.2.1 p.2.2.1 p.2.2.2⟩
noncomputable def f_impl_MsgBytes.l0.c : LoopCon := ⟨1000, 6, [2, 4, 21, 22, 23], ⟨[(2, .nil (some R0)), (4, .ref 1000 [] none), (21, .ref 1001 [] none), (22, .int .i64 0), (23, .int .i64 0)], [(1000, .row R0 []), (1001, .row R1 [])], 1002⟩, [(.int .i64), (.int .i64), (.sl R0), (.sl R1)], [⟨.exit 0, [2, 4], ⟨[(2, .nil (some R0)), (4, .ref 1000 [] none)], [(1000, .row R0 [])], 1001⟩, [(.sl R0)]⟩], fun (p : Int × Int × List Int × List Int) => f_impl_MsgBytes.l0 N p.1 p.2.1 p.2.2.1 p.2.2.2⟩
noncomputable abbrev K35 : Cons := [(37, C37), (116, C116)]
noncomputable abbrev L35 : List (Nat × Loops) := [(35, [(8, f_impl_MsgBytes.l0.c)])]
abbrev Q35 : List (Nat × List (Int × Nat) × Nat) := []
noncomputable abbrev X35 : Nat → Ctx := ctxOf tb K35 L35 Q35
theorem f_impl_MsgBytes.l0.ok : ∀ n p, (fun (p : Int × Int × List Int × List Int) => f_impl_MsgBytes.l0 n p.1 p.2.1 p.2.2.1 p.2.2.2) p = iterD (roundOf fs X35 6 35 8 false f_impl_MsgBytes.l0.c) n p :=
  iter_of (l := fun n => fun (p : Int × Int × List Int × List Int) => f_impl_MsgBytes.l0 n p.1 p.2.1 p.2.2.1 p.2.2.2) (fun _ => rfl) (fun n p => by kernel_rfl)
theorem E35 : ∀ x, funRun fs X35 6 35 C35 x = C35.fn x := fun x => by kernel_rfl
theorem B35 : ConB Try.prog 35 C35 := ConB.make FS MIX TY (cons := K35) (L := L35) (ptrs := Q35) ⟨S37, S116, trivial⟩ trivial ⟨⟨⟨N, fun p => f_impl_MsgBytes.l0.ok N p⟩, trivial⟩, trivial⟩ rfl rfl E35
theorem S35 : ConS Try.prog 35 C35 := B35.call rfl
/-! spec.l1In: function 97 -/
noncomputable def f_spec_l1In (x0 : Int) (x1 : Int) (x2 : Int) : Option (Bool) :=
  bif (decide (x1 ≤ x0)) then
    some (decide (x0 ≤ x2))
  else
    some false
noncomputable def C97 : Con := ⟨[(.B, false, [(.int .i64)]), (.B, false, [(.int .i64)]), (.B, false, [(.int .i64)])], [(false, [.bool])], [(.int .i64), (.int .i64), (.int .i64)], [.bool], fun (p : Int × Int × Int) => f_spec_l1In p.1 p.2.1 p.2.2⟩
noncomputable abbrev K97 : Cons := []
noncomputable abbrev L97 : List (Nat × Loops) := []
abbrev Q97 : List (Nat × List (Int × Nat) × Nat) := []
noncomputable abbrev X97 : Nat → Ctx := ctxOf tb K97 L97 Q97
theorem E97 : ∀ x, funRun fs X97 6 97 C97 x = C97.fn x := fun x => by kernel_rfl
theorem B97 : ConB Try.prog 97 C97 := ConB.make FS MIX TY (cons := K97) (L := L97) (ptrs := Q97) trivial trivial trivial rfl rfl E97
theorem S97 : ConS Try.prog 97 C97 := B97.call rfl
/-! spec.l1Words: function 126 -/
noncomputable def f_spec_l1Words.l0 : Nat → (List Int) → Int → Bool → Int → Option ((Bool) ⊕ (List Int × Int × Bool))
  | 0, _, _, _, _ => none
  | n + 1, p76, p77, p78, p79 =>
    bif (decide (p79 < (p76.length : Int))) then
      bif ((decide ((0 : Int) ≤ p79)) && (decide (p79 < (p76.length : Int)))) then
      (f_spec_l1In (p76.getD p79.toNat 0) 0 65535).bind fun y80 =>
      bif (!y80) then
        some (.inl false)
      else
        f_spec_l1Words.l0 n p76 p77 p78 (IntKind.wrap .i64 (p79 + (1 : Int)))
      else none
    else
      some (.inr (p76, p77, p78))
noncomputable def f_spec_l1Words (x0 : List Int) (x1 : Int) : Option (Bool) :=
  (f_spec_l1Words.l0 N x0 x1 false 0).bind fun r81 =>
  cs r81 (fun a82 =>
    some a82) (fun b83 =>
    some (decide ((b83.1.length : Int) = b83.2.1)))
noncomputable def C126 : Con := ⟨[(.B, false, [(.sl R1)]), (.B, false, [(.int .i64)])], [(false, [.bool])], [(.sl R1), (.int .i64)], [.bool], fun (p : List Int × Int) => f_spec_l1Words p.1 p.2⟩
noncomputable def f_spec_l1Words.l0.c : LoopCon := ⟨1000, 6, [0, 1, 4, 5], ⟨[(0, .bor none R1 []), (1, .int .i64 0), (4, .bool false), (5, .int .i64 0)], [], 1000⟩, [(.sl R1), (.int .i64), .bool, (.int .i64)], [⟨.ret, [4], ⟨[(4, .bool false)], [], 1000⟩, [.bool]⟩, ⟨.exit 0, [0, 1, 4], ⟨[(0, .bor none R1 []), (1, .int .i64 0), (4, .bool false)], [], 1000⟩, [(.sl R1), (.int .i64), .bool]⟩], fun (p : List Int × Int × Bool × Int) => f_spec_l1Words.l0 N p.1 p.2.1 p.2.2.1 p.2.2.2⟩
noncomputable abbrev K126 : Cons := [(97, C97)]
noncomputable abbrev L126 : List (Nat × Loops) := [(126, [(2, f_spec_l1Words.l0.c)])]
abbrev Q126 : List (Nat × List (Int × Nat) × Nat) := []
noncomputable abbrev X126 : Nat → Ctx := ctxOf tb K126 L126 Q126
theorem f_spec_l1Words.l0.ok : ∀ n p, (fun (p : List Int × Int × Bool × Int) => f_spec_l1Words.l0 n p.1 p.2.1 p.2.2.1 p.2.2.2) p = iterD (roundOf fs X126 6 126 2 false f_spec_l1Words.l0.c) n p :=
  iter_of (l := fun n => fun (p : List Int × Int × Bool × Int) => f_spec_l1Words.l0 n p.1 p.2.1 p.2.2.1 p.2.2.2) (fun _ => rfl) (fun n p => by kernel_rfl)
theorem E126 : ∀ x, funRun fs X126 6 126 C126 x = C126.fn x := fun x => by kernel_rfl
theorem B126 : ConB Try.prog 126 C126 := ConB.make FS MIX TY (cons := K126) (L := L126) (ptrs := Q126) ⟨S97, trivial⟩ trivial ⟨⟨⟨N, fun p => f_spec_l1Words.l0.ok N p⟩, trivial⟩, trivial⟩ rfl rfl E126
theorem S126 : ConS Try.prog 126 C126 := B126.call rfl
/-! spec.MsgOk: function 45 -/
noncomputable def f_spec_MsgOk (x0 : Int) (x1 : Int) (x2 : Bool) (x3 : List Int) : Option (Bool) :=
  bif (decide (x0 = (3 : Int))) then
    bif (decide (x0 = (3 : Int))) then
      (f_spec_l1In x0 1 7).bind fun y84 =>
      bif y84 then
        (f_spec_l1In x1 0 5).bind fun y85 =>
        bif y85 then
          (f_spec_l1Words x3 4).bind fun y86 =>
          some y86
        else
          some false
      else
        some false
    else
      (f_spec_l1In x0 1 7).bind fun y87 =>
      bif y87 then
        (f_spec_l1In x1 0 5).bind fun y88 =>
        bif y88 then
          bif (decide (x0 = (6 : Int))) then
            (f_spec_l1Words x3 4).bind fun y89 =>
            some y89
          else
            bif (!x2) then
              (f_spec_l1Words x3 4).bind fun y90 =>
              some y90
            else
              some false
        else
          some false
      else
        some false
  else
    bif (decide (x0 = (7 : Int))) then
      bif (decide (x0 = (3 : Int))) then
        (f_spec_l1In x0 1 7).bind fun y91 =>
        bif y91 then
          (f_spec_l1In x1 0 5).bind fun y92 =>
          bif y92 then
            (f_spec_l1Words x3 4).bind fun y93 =>
            some y93
          else
            some false
        else
          some false
      else
        (f_spec_l1In x0 1 7).bind fun y94 =>
        bif y94 then
          (f_spec_l1In x1 0 5).bind fun y95 =>
          bif y95 then
            bif (decide (x0 = (6 : Int))) then
              (f_spec_l1Words x3 4).bind fun y96 =>
              some y96
            else
              bif (!x2) then
                (f_spec_l1Words x3 4).bind fun y97 =>
                some y97
              else
                some false
          else
            some false
        else
          some false
    else
      bif (decide (x0 = (3 : Int))) then
        (f_spec_l1In x0 1 7).bind fun y98 =>
        bif y98 then
          (f_spec_l1In x1 0 5).bind fun y99 =>
          bif y99 then
            (f_spec_l1Words x3 0).bind fun y100 =>
            some y100
          else
            some false
        else
          some false
      else
        (f_spec_l1In x0 1 7).bind fun y101 =>
        bif y101 then
          (f_spec_l1In x1 0 5).bind fun y102 =>
          bif y102 then
            bif (decide (x0 = (6 : Int))) then
              (f_spec_l1Words x3 0).bind fun y103 =>
              some y103
            else
              bif (!x2) then
                (f_spec_l1Words x3 0).bind fun y104 =>
                some y104
              else
                some false
          else
            some false
        else
          some false
noncomputable def C45 : Con := ⟨[(.B, true, [(.int .i64), (.int .i64), .bool, (.sl R1)])], [(false, [.bool])], [(.int .i64), (.int .i64), .bool, (.sl R1)], [.bool], fun (p : Int × Int × Bool × List Int) => f_spec_MsgOk p.1 p.2.1 p.2.2.1 p.2.2.2⟩
noncomputable abbrev K45 : Cons := [(97, C97), (126, C126)]
noncomputable abbrev L45 : List (Nat × Loops) := []
abbrev Q45 : List (Nat × List (Int × Nat) × Nat) := []
noncomputable abbrev X45 : Nat → Ctx := ctxOf tb K45 L45 Q45
theorem E45 : ∀ x, funRun fs X45 6 45 C45 x = C45.fn x := fun x => by kernel_rfl
theorem B45 : ConB Try.prog 45 C45 := ConB.make FS MIX TY (cons := K45) (L := L45) (ptrs := Q45) ⟨S97, S126, trivial⟩ trivial trivial rfl rfl E45
theorem S45 : ConS Try.prog 45 C45 := B45.call rfl
/-! spec.PutNum: function 117 -/
noncomputable def f_spec_PutNum.l0 : Nat → Int → (List Int) → Option (Int × List Int)
  | 0, _, _ => none
  | n + 1, p106, p107 =>
    bif (decide ((127 : Int) < p106)) then
      bif (Nat.blt (p107.length + ([(IntKind.wrap .u8 ((IntKind.wrap .i64 ((Int.tmod p106 (128 : Int)) + (128 : Int)))))] : List Int).length) 140737488355328) then
      (some ((p107 ++ ([(IntKind.wrap .u8 ((IntKind.wrap .i64 ((Int.tmod p106 (128 : Int)) + (128 : Int)))))] : List Int)) : List Int)).bind fun z108 =>
      f_spec_PutNum.l0 n (IntKind.wrap .i64 (Int.tdiv p106 (128 : Int))) z108
      else none
    else
      some (p106, p107)
noncomputable def f_spec_PutNum (x0 : Int) : Option (List Int) :=
  (f_spec_l1In x0 0 100000).bind fun y105 =>
  bif (!y105) then
    some ([] : List Int)
  else
    (f_spec_PutNum.l0 N x0 ([] : List Int)).bind fun r109 =>
    bif (Nat.blt (r109.2.length + ([(IntKind.wrap .u8 (r109.1))] : List Int).length) 140737488355328) then
    (some ((r109.2 ++ ([(IntKind.wrap .u8 (r109.1))] : List Int)) : List Int)).bind fun z110 =>
    some z110
    else none
noncomputable def C117 : Con := ⟨[(.B, false, [(.int .i64)])], [(false, [(.sl R0)])], [(.int .i64)], [(.sl R0)], fun (p : Int) => f_spec_PutNum p⟩
noncomputable def f_spec_PutNum.l0.c : LoopCon := ⟨1000, 6, [0, 2, 3], ⟨[(0, .int .i64 0), (2, .nil (some R0)), (3, .ref 1000 [] none)], [(1000, .row R0 [])], 1001⟩, [(.int .i64), (.sl R0)], [⟨.exit 0, [0, 2, 3], ⟨[(0, .int .i64 0), (2, .nil (some R0)), (3, .ref 1000 [] none)], [(1000, .row R0 [])], 1001⟩, [(.int .i64), (.sl R0)]⟩], fun (p : Int × List Int) => f_spec_PutNum.l0 N p.1 p.2⟩
noncomputable abbrev K117 : Cons := [(97, C97)]
noncomputable abbrev L117 : List (Nat × Loops) := [(117, [(4, f_spec_PutNum.l0.c)])]
abbrev Q117 : List (Nat × List (Int × Nat) × Nat) := []
noncomputable abbrev X117 : Nat → Ctx := ctxOf tb K117 L117 Q117
theorem f_spec_PutNum.l0.ok : ∀ n p, (fun (p : Int × List Int) => f_spec_PutNum.l0 n p.1 p.2) p = iterD (roundOf fs X117 6 117 4 false f_spec_PutNum.l0.c) n p :=
  iter_of (l := fun n => fun (p : Int × List Int) => f_spec_PutNum.l0 n p.1 p.2) (fun _ => rfl) (fun n p => by kernel_rfl)
theorem E117 : ∀ x, funRun fs X117 6 117 C117 x = C117.fn x := fun x => by kernel_rfl
theorem B117 : ConB Try.prog 117 C117 := ConB.make FS MIX TY (cons := K117) (L := L117) (ptrs := Q117) ⟨S97, trivial⟩ trivial ⟨⟨⟨N, fun p => f_spec_PutNum.l0.ok N p⟩, trivial⟩, trivial⟩ rfl rfl E117
theorem S117 : ConS Try.prog 117 C117 := B117.call rfl
/-! spec.l1Bit: function 118 -/
noncomputable def f_spec_l1Bit (x0 : Bool) : Option (Int) :=
  bif x0 then
    some 1
  else
    some 0
noncomputable def C118 : Con := ⟨[(.B, false, [.bool])], [(false, [(.int .i64)])], [.bool], [(.int .i64)], fun (p : Bool) => f_spec_l1Bit p⟩
noncomputable abbrev K118 : Cons := []
noncomputable abbrev L118 : List (Nat × Loops) := []
abbrev Q118 : List (Nat × List (Int × Nat) × Nat) := []
noncomputable abbrev X118 : Nat → Ctx := ctxOf tb K118 L118 Q118
theorem E118 : ∀ x, funRun fs X118 6 118 C118 x = C118.fn x := fun x => by kernel_rfl
theorem B118 : ConB Try.prog 118 C118 := ConB.make FS MIX TY (cons := K118) (L := L118) (ptrs := Q118) trivial trivial trivial rfl rfl E118
theorem S118 : ConS Try.prog 118 C118 := B118.call rfl
/-! spec.MsgBytes: function 36 -/
noncomputable def f_spec_MsgBytes.l0 : Nat → Int → Int → Int → Bool → (List Int) → (List Int) → Option (List Int)
  | 0, _, _, _, _, _, _ => none
  | n + 1, p118, p119, p120, p121, p122, p123 =>
    bif (decide (p118 < (p122.length : Int))) then
      bif ((decide ((0 : Int) ≤ p118)) && (decide (p118 < (p122.length : Int)))) then
      (f_spec_PutNum (p122.getD p118.toNat 0)).bind fun y124 =>
      bif (Nat.blt (p123.length + y124.length) 140737488355328) then
      (some ((p123 ++ y124) : List Int)).bind fun z125 =>
      f_spec_MsgBytes.l0 n (IntKind.wrap .i64 (p118 + (1 : Int))) p119 p120 p121 p122 z125
      else none
      else none
    else
      some p123
noncomputable def f_spec_MsgBytes (x0 : Int) (x1 : Int) (x2 : Bool) (x3 : List Int) : Option (List Int) :=
  (f_spec_MsgOk x0 x1 x2 x3).bind fun y111 =>
  bif (!y111) then
    some ([] : List Int)
  else
    (f_spec_PutNum x0).bind fun y112 =>
    (f_spec_PutNum x1).bind fun y113 =>
    bif (Nat.blt (y112.length + y113.length) 140737488355328) then
    (some ((y112 ++ y113) : List Int)).bind fun z114 =>
    (f_spec_l1Bit x2).bind fun y115 =>
    (f_spec_PutNum y115).bind fun y116 =>
    bif (Nat.blt (z114.length + y116.length) 140737488355328) then
    (some ((z114 ++ y116) : List Int)).bind fun z117 =>
    (f_spec_MsgBytes.l0 N 0 x0 x1 x2 x3 z117).bind fun r126 =>
    some r126
    else none
    else none
noncomputable def C36 : Con := ⟨[(.B, true, [(.int .i64), (.int .i64), .bool, (.sl R1)])], [(false, [(.sl R0)])], [(.int .i64), (.int .i64), .bool, (.sl R1)], [(.sl R0)], fun (p : Int × Int × Bool × List Int) => f_spec_MsgBytes p.1 p.2.1 p.2.2.1 p.2.2.2⟩
noncomputable def f_spec_MsgBytes.l0.c : LoopCon := ⟨1000, 6, [1, 2, 3, 4], ⟨[(1, .ptr 1000 0), (2, .nil (some R0)), (3, .ref 1001 [] none), (4, .int .i64 0)], [(1000, .box [.int .i64 0, .int .i64 0, .bool false, .bor none R1 []]), (1001, .row R0 [])], 1002⟩, [(.int .i64), (.int .i64), (.int .i64), .bool, (.sl R1), (.sl R0)], [⟨.exit 0, [2, 3], ⟨[(2, .nil (some R0)), (3, .ref 1000 [] none)], [(1000, .row R0 [])], 1001⟩, [(.sl R0)]⟩], fun (p : Int × Int × Int × Bool × List Int × List Int) => f_spec_MsgBytes.l0 N p.1 p.2.1 p.2.2.1 p.2.2.2.1 p.2.2.2.2.1 p.2.2.2.2.2⟩
noncomputable abbrev K36 : Cons := [(45, C45), (117, C117), (118, C118)]
noncomputable abbrev L36 : List (Nat × Loops) := [(36, [(6, f_spec_MsgBytes.l0.c)])]
abbrev Q36 : List (Nat × List (Int × Nat) × Nat) := []
noncomputable abbrev X36 : Nat → Ctx := ctxOf tb K36 L36 Q36
theorem f_spec_MsgBytes.l0.ok : ∀ n p, (fun (p : Int × Int × Int × Bool × List Int × List Int) => f_spec_MsgBytes.l0 n p.1 p.2.1 p.2.2.1 p.2.2.2.1 p.2.2.2.2.1 p.2.2.2.2.2) p = iterD (roundOf fs X36 6 36 6 false f_spec_MsgBytes.l0.c) n p :=
  iter_of (l := fun n => fun (p : Int × Int × Int × Bool × List Int × List Int) => f_spec_MsgBytes.l0 n p.1 p.2.1 p.2.2.1 p.2.2.2.1 p.2.2.2.2.1 p.2.2.2.2.2) (fun _ => rfl) (fun n p => by kernel_rfl)
theorem E36 : ∀ x, funRun fs X36 6 36 C36 x = C36.fn x := fun x => by kernel_rfl
theorem B36 : ConB Try.prog 36 C36 := ConB.make FS MIX TY (cons := K36) (L := L36) (ptrs := Q36) ⟨S45, S117, S118, trivial⟩ trivial ⟨⟨⟨N, fun p => f_spec_MsgBytes.l0.ok N p⟩, trivial⟩, trivial⟩ rfl rfl E36
theorem S36 : ConS Try.prog 36 C36 := B36.call rfl
/-! impl.GetNum: function 121 -/
noncomputable def f_impl_GetNum.l0 : Nat → (List Int) → Int → Int → Int → Bool → Int → Int → Option ((Int × Int × Bool) ⊕ (Int × Int × Bool))
  | 0, _, _, _, _, _, _, _ => none
  | n + 1, p127, p128, p129, p130, p131, p132, p133 =>
    bif (decide (p133 < (3 : Int))) then
      bif (decide (p128 < (IntKind.wrap .i64 ((p127.length : Int) - p133)))) then
        bif ((decide ((0 : Int) ≤ (IntKind.wrap .i64 (p128 + p133)))) && (decide ((IntKind.wrap .i64 (p128 + p133)) < (p127.length : Int)))) then
        bif (decide ((IntKind.wrap .i64 ((7 : Int) * p133)) < (0 : Int))) then none else
        bif (decide ((128 : Int) ≤ (p127.getD (IntKind.wrap .i64 (p128 + p133)).toNat 0))) then
          f_impl_GetNum.l0 n p127 p128 p129 p130 p131 (IntKind.wrap .i64 (p132 + (shlI .i64 (IntKind.wrap .i64 ((Int.tmod (p127.getD (IntKind.wrap .i64 (p128 + p133)).toNat 0) (128 : Int)))) (IntKind.wrap .i64 ((7 : Int) * p133))))) (IntKind.wrap .i64 (p133 + (1 : Int)))
        else
          bif (decide ((100000 : Int) < (IntKind.wrap .i64 (p132 + (shlI .i64 (IntKind.wrap .i64 ((Int.tmod (p127.getD (IntKind.wrap .i64 (p128 + p133)).toNat 0) (128 : Int)))) (IntKind.wrap .i64 ((7 : Int) * p133))))))) then
            some (.inl (p129, p130, p131))
          else
            bif (decide ((p127.getD (IntKind.wrap .i64 (p128 + p133)).toNat 0) = (0 : Int))) then
              bif (decide ((0 : Int) < p133)) then
                some (.inl (p129, p130, p131))
              else
                some (.inr ((IntKind.wrap .i64 (p132 + (shlI .i64 (IntKind.wrap .i64 ((Int.tmod (p127.getD (IntKind.wrap .i64 (p128 + p133)).toNat 0) (128 : Int)))) (IntKind.wrap .i64 ((7 : Int) * p133))))), (IntKind.wrap .i64 ((IntKind.wrap .i64 (p128 + p133)) + (1 : Int))), true))
            else
              some (.inr ((IntKind.wrap .i64 (p132 + (shlI .i64 (IntKind.wrap .i64 ((Int.tmod (p127.getD (IntKind.wrap .i64 (p128 + p133)).toNat 0) (128 : Int)))) (IntKind.wrap .i64 ((7 : Int) * p133))))), (IntKind.wrap .i64 ((IntKind.wrap .i64 (p128 + p133)) + (1 : Int))), true))
        else none
      else
        some (.inl (p129, p130, p131))
    else
      some (.inl (p129, p130, p131))
noncomputable def f_impl_GetNum (x0 : List Int) (x1 : Int) : Option (Int × Int × Bool) :=
  bif (decide (x1 < (0 : Int))) then
    some (0, 0, false)
  else
    (f_impl_GetNum.l0 N x0 x1 0 0 false 0 0).bind fun r134 =>
    cs r134 (fun a135 =>
      some (0, 0, false)) (fun b136 =>
      some (b136.1, b136.2.1, b136.2.2))
noncomputable def C121 : Con := ⟨[(.B, false, [(.sl R0)]), (.B, false, [(.int .i64)])], [(false, [(.int .i64)]), (false, [(.int .i64)]), (false, [.bool])], [(.sl R0), (.int .i64)], [(.int .i64), (.int .i64), .bool], fun (p : List Int × Int) => f_impl_GetNum p.1 p.2⟩
noncomputable def f_impl_GetNum.l0.c : LoopCon := ⟨1000, 6, [0, 1, 4, 5, 6, 7, 8], ⟨[(0, .bor none R0 []), (1, .int .i64 0), (4, .int .i64 0), (5, .int .i64 0), (6, .bool false), (7, .int .i64 0), (8, .int .i64 0)], [], 1000⟩, [(.sl R0), (.int .i64), (.int .i64), (.int .i64), .bool, (.int .i64), (.int .i64)], [⟨.exit 0, [4, 5, 6], ⟨[(4, .int .i64 0), (5, .int .i64 0), (6, .bool false)], [], 1000⟩, [(.int .i64), (.int .i64), .bool]⟩, ⟨.ret, [4, 5, 6], ⟨[(4, .int .i64 0), (5, .int .i64 0), (6, .bool false)], [], 1000⟩, [(.int .i64), (.int .i64), .bool]⟩], fun (p : List Int × Int × Int × Int × Bool × Int × Int) => f_impl_GetNum.l0 N p.1 p.2.1 p.2.2.1 p.2.2.2.1 p.2.2.2.2.1 p.2.2.2.2.2.1 p.2.2.2.2.2.2⟩
noncomputable abbrev K121 : Cons := []
noncomputable abbrev L121 : List (Nat × Loops) := [(121, [(5, f_impl_GetNum.l0.c)])]
abbrev Q121 : List (Nat × List (Int × Nat) × Nat) := []
noncomputable abbrev X121 : Nat → Ctx := ctxOf tb K121 L121 Q121
theorem f_impl_GetNum.l0.ok : ∀ n p, (fun (p : List Int × Int × Int × Int × Bool × Int × Int) => f_impl_GetNum.l0 n p.1 p.2.1 p.2.2.1 p.2.2.2.1 p.2.2.2.2.1 p.2.2.2.2.2.1 p.2.2.2.2.2.2) p = iterD (roundOf fs X121 6 121 5 false f_impl_GetNum.l0.c) n p :=
  iter_of (l := fun n => fun (p : List Int × Int × Int × Int × Bool × Int × Int) => f_impl_GetNum.l0 n p.1 p.2.1 p.2.2.1 p.2.2.2.1 p.2.2.2.2.1 p.2.2.2.2.2.1 p.2.2.2.2.2.2) (fun _ => rfl) (fun n p => by kernel_rfl)
theorem E121 : ∀ x, funRun fs X121 6 121 C121 x = C121.fn x := fun x => by kernel_rfl
theorem B121 : ConB Try.prog 121 C121 := ConB.make FS MIX TY (cons := K121) (L := L121) (ptrs := Q121) trivial trivial ⟨⟨⟨N, fun p => f_impl_GetNum.l0.ok N p⟩, trivial⟩, trivial⟩ rfl rfl E121
theorem S121 : ConS Try.prog 121 C121 := B121.call rfl
/-! bytes.Equal: function 122 -/
noncomputable def f_bytes_Equal (x0 : List Int) (x1 : List Int) : Option (Bool) :=
  some ((bytesOfRows x0).toList == (bytesOfRows x1).toList)
noncomputable def C122 : Con := ⟨[(.B, false, [(.sl R0)]), (.B, false, [(.sl R0)])], [(false, [.bool])], [(.sl R0), (.sl R0)], [.bool], fun (p : List Int × List Int) => f_bytes_Equal p.1 p.2⟩
noncomputable abbrev K122 : Cons := []
noncomputable abbrev L122 : List (Nat × Loops) := []
abbrev Q122 : List (Nat × List (Int × Nat) × Nat) := []
noncomputable abbrev X122 : Nat → Ctx := ctxOf tb K122 L122 Q122
theorem E122 : ∀ x, funRun fs X122 6 122 C122 x = C122.fn x := fun x => by kernel_rfl
theorem B122 : ConB Try.prog 122 C122 := ConB.make FS MIX TY (cons := K122) (L := L122) (ptrs := Q122) trivial trivial trivial rfl rfl E122
theorem S122 : ConS Try.prog 122 C122 := B122.call rfl
/-! impl.MsgOf: function 38 -/
noncomputable def f_impl_MsgOf.l0 : Nat → (List Int) → Bool → Int → Int → Int → Bool → (List Int) → (List Int) → Option ((Bool × Int × Int × Bool × List Int) ⊕ (List Int × Bool × Int × Int × Bool × List Int × List Int))
  | 0, _, _, _, _, _, _, _, _ => none
  | n + 1, p137, p138, p139, p140, p141, p142, p143, p144 =>
    bif (decide (p139 < (p137.length : Int))) then
      bif (decide ((p143.length : Int) < (7 : Int))) then
        (f_impl_GetNum p137 p139).bind fun y145 =>
        bif (!y145.2.2) then
          some (.inl (false, 0, 0, false, ([] : List Int)))
        else
          bif (Nat.blt (p143.length + ([y145.1] : List Int).length) 17592186044416) then
          (some ((p143 ++ ([y145.1] : List Int)) : List Int)).bind fun z146 =>
          f_impl_MsgOf.l0 n p137 p138 y145.2.1 p140 p141 p142 z146 p144
          else none
      else
        some (.inr (p137, p138, p140, p141, p142, p143, p144))
    else
      some (.inr (p137, p138, p140, p141, p142, p143, p144))
noncomputable def f_impl_MsgOf (x0 : List Int) : Option (Int × Int × Bool × List Int × Bool) :=
  (f_impl_MsgOf.l0 N x0 false 0 0 0 false ([] : List Int) ([] : List Int)).bind fun r147 =>
  cs r147 (fun a148 =>
    some (a148.2.1, a148.2.2.1, a148.2.2.2.1, a148.2.2.2.2, a148.1)) (fun b149 =>
    bif (decide ((b149.2.2.2.2.2.1.length : Int) < (3 : Int))) then
      some (0, 0, false, [], false)
    else
      bif (decide ((0 : Int) < (b149.2.2.2.2.2.1.length : Int))) then
      bif (decide ((1 : Int) < (b149.2.2.2.2.2.1.length : Int))) then
      bif (decide ((2 : Int) < (b149.2.2.2.2.2.1.length : Int))) then
      bif (decide ((3 : Int) ≤ (b149.2.2.2.2.2.1.length : Int))) then
      (f_impl_MsgBytes (b149.2.2.2.2.2.1.getD 0 0) (b149.2.2.2.2.2.1.getD 1 0) (decide ((b149.2.2.2.2.2.1.getD 2 0) = (1 : Int))) ((b149.2.2.2.2.2.1.drop 3).take ((b149.2.2.2.2.2.1.length : Int) - (3 : Int)).toNat)).bind fun y150 =>
      bif (decide ((y150.length : Int) = (0 : Int))) then
        some (0, 0, false, [], false)
      else
        (f_bytes_Equal y150 b149.1).bind fun y151 =>
        bif (!y151) then
          some (0, 0, false, [], false)
        else
          some ((b149.2.2.2.2.2.1.getD 0 0), (b149.2.2.2.2.2.1.getD 1 0), (decide ((b149.2.2.2.2.2.1.getD 2 0) = (1 : Int))), ((b149.2.2.2.2.2.1.drop 3).take ((b149.2.2.2.2.2.1.length : Int) - (3 : Int)).toNat), true)
      else none
      else none
      else none
      else none)
noncomputable def C38 : Con := ⟨[(.B, false, [(.sl R0)])], [(true, [(.int .i64), (.int .i64), .bool, (.sl R1)]), (false, [.bool])], [(.sl R0)], [(.int .i64), (.int .i64), .bool, (.sl R1), .bool], fun (p : List Int) => f_impl_MsgOf p⟩
noncomputable def f_impl_MsgOf.l0.c : LoopCon := ⟨1000, 6, [0, 2, 3, 4, 5], ⟨[(0, .bor none R0 []), (2, .ptr 1000 0), (3, .bool false), (4, .ref 1001 [] none), (5, .int .i64 0)], [(1000, .box [.int .i64 0, .int .i64 0, .bool false, .ref 1002 [] none]), (1001, .row R1 []), (1002, .row R1 [])], 1003⟩, [(.sl R0), .bool, (.int .i64), (.int .i64), (.int .i64), .bool, (.sl R1), (.sl R1)], [⟨.ret, [2, 3], ⟨[(2, .ptr 1000 0), (3, .bool false)], [(1000, .box [.int .i64 0, .int .i64 0, .bool false, .ref 1001 [] none]), (1001, .row R1 [])], 1002⟩, [.bool, (.int .i64), (.int .i64), .bool, (.sl R1)]⟩, ⟨.exit 0, [0, 2, 3, 4], ⟨[(0, .bor none R0 []), (2, .ptr 1000 0), (3, .bool false), (4, .ref 1001 [] none)], [(1000, .box [.int .i64 0, .int .i64 0, .bool false, .ref 1002 [] none]), (1001, .row R1 []), (1002, .row R1 [])], 1003⟩, [(.sl R0), .bool, (.int .i64), (.int .i64), .bool, (.sl R1), (.sl R1)]⟩], fun (p : List Int × Bool × Int × Int × Int × Bool × List Int × List Int) => f_impl_MsgOf.l0 N p.1 p.2.1 p.2.2.1 p.2.2.2.1 p.2.2.2.2.1 p.2.2.2.2.2.1 p.2.2.2.2.2.2.1 p.2.2.2.2.2.2.2⟩
noncomputable abbrev K38 : Cons := [(35, C35), (121, C121), (122, C122)]
noncomputable abbrev L38 : List (Nat × Loops) := [(38, [(3, f_impl_MsgOf.l0.c)])]
abbrev Q38 : List (Nat × List (Int × Nat) × Nat) := []
noncomputable abbrev X38 : Nat → Ctx := ctxOf tb K38 L38 Q38
theorem f_impl_MsgOf.l0.ok : ∀ n p, (fun (p : List Int × Bool × Int × Int × Int × Bool × List Int × List Int) => f_impl_MsgOf.l0 n p.1 p.2.1 p.2.2.1 p.2.2.2.1 p.2.2.2.2.1 p.2.2.2.2.2.1 p.2.2.2.2.2.2.1 p.2.2.2.2.2.2.2) p = iterD (roundOf fs X38 6 38 3 false f_impl_MsgOf.l0.c) n p :=
  iter_of (l := fun n => fun (p : List Int × Bool × Int × Int × Int × Bool × List Int × List Int) => f_impl_MsgOf.l0 n p.1 p.2.1 p.2.2.1 p.2.2.2.1 p.2.2.2.2.1 p.2.2.2.2.2.1 p.2.2.2.2.2.2.1 p.2.2.2.2.2.2.2) (fun _ => rfl) (fun n p => by kernel_rfl)
theorem E38 : ∀ x, funRun fs X38 6 38 C38 x = C38.fn x := fun x => by kernel_rfl
theorem B38 : ConB Try.prog 38 C38 := ConB.make FS MIX TY (cons := K38) (L := L38) (ptrs := Q38) ⟨S35, S121, S122, trivial⟩ trivial ⟨⟨⟨N, fun p => f_impl_MsgOf.l0.ok N p⟩, trivial⟩, trivial⟩ rfl rfl E38
theorem S38 : ConS Try.prog 38 C38 := B38.call rfl
/-! laws.sameInts: function 43 -/
noncomputable def f_laws_sameInts.l0 : Nat → (List Int) → (List Int) → Bool → Int → Option ((Bool) ⊕ (Bool))
  | 0, _, _, _, _ => none
  | n + 1, p152, p153, p154, p155 =>
    bif (decide (p155 < (p152.length : Int))) then
      bif ((decide ((0 : Int) ≤ p155)) && (decide (p155 < (p152.length : Int)))) then
      bif ((decide ((0 : Int) ≤ p155)) && (decide (p155 < (p153.length : Int)))) then
      bif (!(decide ((p152.getD p155.toNat 0) = (p153.getD p155.toNat 0)))) then
        some (.inl false)
      else
        f_laws_sameInts.l0 n p152 p153 p154 (IntKind.wrap .i64 (p155 + (1 : Int)))
      else none
      else none
    else
      some (.inr p154)
noncomputable def f_laws_sameInts (x0 : List Int) (x1 : List Int) : Option (Bool) :=
  bif (!(decide ((x0.length : Int) = (x1.length : Int)))) then
    some false
  else
    (f_laws_sameInts.l0 N x0 x1 false 0).bind fun r156 =>
    cs r156 (fun a157 =>
      some a157) (fun b158 =>
      some true)
noncomputable def C43 : Con := ⟨[(.B, false, [(.sl R1)]), (.B, false, [(.sl R1)])], [(false, [.bool])], [(.sl R1), (.sl R1)], [.bool], fun (p : List Int × List Int) => f_laws_sameInts p.1 p.2⟩
noncomputable def f_laws_sameInts.l0.c : LoopCon := ⟨1000, 6, [0, 1, 4, 5], ⟨[(0, .bor none R1 []), (1, .bor none R1 []), (4, .bool false), (5, .int .i64 0)], [], 1000⟩, [(.sl R1), (.sl R1), .bool, (.int .i64)], [⟨.ret, [4], ⟨[(4, .bool false)], [], 1000⟩, [.bool]⟩, ⟨.exit 0, [4], ⟨[(4, .bool false)], [], 1000⟩, [.bool]⟩], fun (p : List Int × List Int × Bool × Int) => f_laws_sameInts.l0 N p.1 p.2.1 p.2.2.1 p.2.2.2⟩
noncomputable abbrev K43 : Cons := []
noncomputable abbrev L43 : List (Nat × Loops) := [(43, [(4, f_laws_sameInts.l0.c)])]
abbrev Q43 : List (Nat × List (Int × Nat) × Nat) := []
noncomputable abbrev X43 : Nat → Ctx := ctxOf tb K43 L43 Q43
theorem f_laws_sameInts.l0.ok : ∀ n p, (fun (p : List Int × List Int × Bool × Int) => f_laws_sameInts.l0 n p.1 p.2.1 p.2.2.1 p.2.2.2) p = iterD (roundOf fs X43 6 43 4 false f_laws_sameInts.l0.c) n p :=
  iter_of (l := fun n => fun (p : List Int × List Int × Bool × Int) => f_laws_sameInts.l0 n p.1 p.2.1 p.2.2.1 p.2.2.2) (fun _ => rfl) (fun n p => by kernel_rfl)
theorem E43 : ∀ x, funRun fs X43 6 43 C43 x = C43.fn x := fun x => by kernel_rfl
theorem B43 : ConB Try.prog 43 C43 := ConB.make FS MIX TY (cons := K43) (L := L43) (ptrs := Q43) trivial trivial ⟨⟨⟨N, fun p => f_laws_sameInts.l0.ok N p⟩, trivial⟩, trivial⟩ rfl rfl E43
theorem S43 : ConS Try.prog 43 C43 := B43.call rfl
/-! spec.DrawMsgOf: function 55 -/
noncomputable def f_spec_DrawMsgOf.l0 : Nat → (List Int) → Int → Int → Option (List Int × Int)
  | 0, _, _, _ => none
  | n + 1, p159, p160, p161 =>
    bif (decide (p161 < (p159.length : Int))) then
      bif (decide (p161 < (4000 : Int))) then
        bif ((decide ((0 : Int) ≤ p161)) && (decide (p161 < (p159.length : Int)))) then
        f_spec_DrawMsgOf.l0 n p159 (bitI .and .i64 (IntKind.wrap .i64 ((IntKind.wrap .i64 ((IntKind.wrap .i64 (p160 * (131 : Int))) + (IntKind.wrap .i64 ((p159.getD p161.toNat 0))))) + (7 : Int))) (1073741823 : Int)) (IntKind.wrap .i64 (p161 + (1 : Int)))
        else none
      else
        some (p159, p160)
    else
      some (p159, p160)
noncomputable def f_spec_DrawMsgOf (x0 : List Int) : Option (List Int) :=
  (f_spec_DrawMsgOf.l0 N x0 (IntKind.wrap .i64 ((20404 : Int) + (x0.length : Int))) 0).bind fun r162 =>
  (f_spec_l1DrawRight r162.1 0 r162.2).bind fun y163 =>
  (f_spec_MsgBytes y163.1 y163.2.1 y163.2.2.1 y163.2.2.2.1).bind fun y164 =>
  (f_spec_l1Below r162.1 y163.2.2.2.2.1 y163.2.2.2.2.2 (IntKind.wrap .i64 ((y164.length : Int) + (1 : Int)))).bind fun y165 =>
  (f_spec_l1Below r162.1 y165.2.1 y165.2.2 5).bind fun y166 =>
  bif (decide (y166.1 = (0 : Int))) then
    bif ((decide ((0 : Int) ≤ y165.1)) && (decide (y165.1 ≤ (y164.length : Int)))) then
    some ((y164.drop 0).take y165.1.toNat)
    else none
  else
    bif (decide (y166.1 = (1 : Int))) then
      bif ((decide ((0 : Int) ≤ y165.1)) && (decide (y165.1 ≤ (y164.length : Int)))) then
      bif (Nat.blt (([] : List Int).length + ((y164.drop 0).take y165.1.toNat).length) 140737488355328) then
      (some ((([] : List Int) ++ ((y164.drop 0).take y165.1.toNat)) : List Int)).bind fun z167 =>
      (f_spec_l1PickInt r162.1 y166.2.1 y166.2.2 ([0, 1, 128, 3] : List Int)).bind fun y168 =>
      bif ((decide ((0 : Int) ≤ y165.1)) && (decide (y165.1 ≤ (y164.length : Int)))) then
      bif (Nat.blt (([(IntKind.wrap .u8 (y168.1))] : List Int).length + ((y164.drop y165.1.toNat).take ((y164.length : Int) - y165.1).toNat).length) 140737488355328) then
      (some ((([(IntKind.wrap .u8 (y168.1))] : List Int) ++ ((y164.drop y165.1.toNat).take ((y164.length : Int) - y165.1).toNat)) : List Int)).bind fun z169 =>
      bif (Nat.blt (z167.length + z169.length) 140737488355328) then
      (some ((z167 ++ z169) : List Int)).bind fun z170 =>
      some z170
      else none
      else none
      else none
      else none
      else none
    else
      some y164
noncomputable def C55 : Con := ⟨[(.B, false, [(.sl R0)])], [(false, [(.sl R0)])], [(.sl R0)], [(.sl R0)], fun (p : List Int) => f_spec_DrawMsgOf p⟩
noncomputable def f_spec_DrawMsgOf.l0.c : LoopCon := ⟨1065, 5, [0, 3, 4], ⟨[(0, .bor none R0 []), (3, .int .i64 0), (4, .int .i64 0)], [], 1065⟩, [(.sl R0), (.int .i64), (.int .i64)], [⟨.exit 0, [0, 3], ⟨[(0, .bor none R0 []), (3, .int .i64 0)], [], 1065⟩, [(.sl R0), (.int .i64)]⟩], fun (p : List Int × Int × Int) => f_spec_DrawMsgOf.l0 N p.1 p.2.1 p.2.2⟩
noncomputable abbrev K55 : Cons := [(36, C36), (109, C109), (110, C110), (134, C134)]
noncomputable abbrev L55 : List (Nat × Loops) := [(107, [(3, f_spec_DrawMsgOf.l0.c)])]
abbrev Q55 : List (Nat × List (Int × Nat) × Nat) := []
noncomputable abbrev X55 : Nat → Ctx := ctxOf tb K55 L55 Q55
theorem f_spec_DrawMsgOf.l0.ok : ∀ n p, (fun (p : List Int × Int × Int) => f_spec_DrawMsgOf.l0 n p.1 p.2.1 p.2.2) p = iterD (roundOf fs X55 5 107 3 true f_spec_DrawMsgOf.l0.c) n p :=
  iter_of (l := fun n => fun (p : List Int × Int × Int) => f_spec_DrawMsgOf.l0 n p.1 p.2.1 p.2.2) (fun _ => rfl) (fun n p => by kernel_rfl)
theorem E55 : ∀ x, funRun fs X55 6 55 C55 x = C55.fn x := fun x => by kernel_rfl
theorem B55 : ConB Try.prog 55 C55 := ConB.make FS MIX TY (cons := K55) (L := L55) (ptrs := Q55) ⟨S36, S109, S110, S134, trivial⟩ trivial ⟨⟨⟨N, fun p => f_spec_DrawMsgOf.l0.ok N p⟩, trivial⟩, trivial⟩ rfl rfl E55
theorem S55 : ConS Try.prog 55 C55 := B55.call rfl
/-! spec.GetNum: function 135 -/
noncomputable def f_spec_GetNum.l0 : Nat → (List Int) → Int → Int → Int → Bool → Int → Int → Option ((Int × Int × Bool) ⊕ (Int × Int × Bool))
  | 0, _, _, _, _, _, _, _ => none
  | n + 1, p171, p172, p173, p174, p175, p176, p177 =>
    bif (decide (p177 < (3 : Int))) then
      bif (decide (p172 < (0 : Int))) then
        some (.inl (0, 0, false))
      else
        bif (decide ((IntKind.wrap .i64 ((p171.length : Int) - p177)) ≤ p172)) then
          some (.inl (0, 0, false))
        else
          bif ((decide ((0 : Int) ≤ (IntKind.wrap .i64 (p172 + p177)))) && (decide ((IntKind.wrap .i64 (p172 + p177)) < (p171.length : Int)))) then
          bif (decide ((IntKind.wrap .i64 ((7 : Int) * p177)) < (0 : Int))) then none else
          bif (decide ((IntKind.wrap .i64 ((p171.getD (IntKind.wrap .i64 (p172 + p177)).toNat 0))) < (128 : Int))) then
            bif (decide ((0 : Int) < p177)) then
              bif (decide ((IntKind.wrap .i64 ((p171.getD (IntKind.wrap .i64 (p172 + p177)).toNat 0))) = (0 : Int))) then
                some (.inl (0, 0, false))
              else
                bif (decide ((100000 : Int) < (bitI .or .i64 p176 (shlI .i64 (Int.tmod (IntKind.wrap .i64 ((p171.getD (IntKind.wrap .i64 (p172 + p177)).toNat 0))) (128 : Int)) (IntKind.wrap .i64 ((7 : Int) * p177)))))) then
                  some (.inl (0, 0, false))
                else
                  some (.inl ((bitI .or .i64 p176 (shlI .i64 (Int.tmod (IntKind.wrap .i64 ((p171.getD (IntKind.wrap .i64 (p172 + p177)).toNat 0))) (128 : Int)) (IntKind.wrap .i64 ((7 : Int) * p177)))), (IntKind.wrap .i64 ((IntKind.wrap .i64 (p172 + p177)) + (1 : Int))), true))
            else
              bif (decide ((100000 : Int) < (bitI .or .i64 p176 (shlI .i64 (Int.tmod (IntKind.wrap .i64 ((p171.getD (IntKind.wrap .i64 (p172 + p177)).toNat 0))) (128 : Int)) (IntKind.wrap .i64 ((7 : Int) * p177)))))) then
                some (.inl (0, 0, false))
              else
                some (.inl ((bitI .or .i64 p176 (shlI .i64 (Int.tmod (IntKind.wrap .i64 ((p171.getD (IntKind.wrap .i64 (p172 + p177)).toNat 0))) (128 : Int)) (IntKind.wrap .i64 ((7 : Int) * p177)))), (IntKind.wrap .i64 ((IntKind.wrap .i64 (p172 + p177)) + (1 : Int))), true))
          else
            f_spec_GetNum.l0 n p171 p172 p173 p174 p175 (bitI .or .i64 p176 (shlI .i64 (Int.tmod (IntKind.wrap .i64 ((p171.getD (IntKind.wrap .i64 (p172 + p177)).toNat 0))) (128 : Int)) (IntKind.wrap .i64 ((7 : Int) * p177)))) (IntKind.wrap .i64 (p177 + (1 : Int)))
          else none
    else
      some (.inr (p173, p174, p175))
noncomputable def f_spec_GetNum (x0 : List Int) (x1 : Int) : Option (Int × Int × Bool) :=
  (f_spec_GetNum.l0 N x0 x1 0 0 false 0 0).bind fun r178 =>
  cs r178 (fun a179 =>
    some (a179.1, a179.2.1, a179.2.2)) (fun b180 =>
    some (0, 0, false))
noncomputable def C135 : Con := ⟨[(.B, false, [(.sl R0)]), (.B, false, [(.int .i64)])], [(false, [(.int .i64)]), (false, [(.int .i64)]), (false, [.bool])], [(.sl R0), (.int .i64)], [(.int .i64), (.int .i64), .bool], fun (p : List Int × Int) => f_spec_GetNum p.1 p.2⟩
noncomputable def f_spec_GetNum.l0.c : LoopCon := ⟨1000, 6, [0, 1, 4, 5, 6, 7, 8], ⟨[(0, .bor none R0 []), (1, .int .i64 0), (4, .int .i64 0), (5, .int .i64 0), (6, .bool false), (7, .int .i64 0), (8, .int .i64 0)], [], 1000⟩, [(.sl R0), (.int .i64), (.int .i64), (.int .i64), .bool, (.int .i64), (.int .i64)], [⟨.ret, [4, 5, 6], ⟨[(4, .int .i64 0), (5, .int .i64 0), (6, .bool false)], [], 1000⟩, [(.int .i64), (.int .i64), .bool]⟩, ⟨.exit 0, [4, 5, 6], ⟨[(4, .int .i64 0), (5, .int .i64 0), (6, .bool false)], [], 1000⟩, [(.int .i64), (.int .i64), .bool]⟩], fun (p : List Int × Int × Int × Int × Bool × Int × Int) => f_spec_GetNum.l0 N p.1 p.2.1 p.2.2.1 p.2.2.2.1 p.2.2.2.2.1 p.2.2.2.2.2.1 p.2.2.2.2.2.2⟩
noncomputable abbrev K135 : Cons := []
noncomputable abbrev L135 : List (Nat × Loops) := [(135, [(3, f_spec_GetNum.l0.c)])]
abbrev Q135 : List (Nat × List (Int × Nat) × Nat) := []
noncomputable abbrev X135 : Nat → Ctx := ctxOf tb K135 L135 Q135
theorem f_spec_GetNum.l0.ok : ∀ n p, (fun (p : List Int × Int × Int × Int × Bool × Int × Int) => f_spec_GetNum.l0 n p.1 p.2.1 p.2.2.1 p.2.2.2.1 p.2.2.2.2.1 p.2.2.2.2.2.1 p.2.2.2.2.2.2) p = iterD (roundOf fs X135 6 135 3 false f_spec_GetNum.l0.c) n p :=
  iter_of (l := fun n => fun (p : List Int × Int × Int × Int × Bool × Int × Int) => f_spec_GetNum.l0 n p.1 p.2.1 p.2.2.1 p.2.2.2.1 p.2.2.2.2.1 p.2.2.2.2.2.1 p.2.2.2.2.2.2) (fun _ => rfl) (fun n p => by kernel_rfl)
theorem E135 : ∀ x, funRun fs X135 6 135 C135 x = C135.fn x := fun x => by kernel_rfl
theorem B135 : ConB Try.prog 135 C135 := ConB.make FS MIX TY (cons := K135) (L := L135) (ptrs := Q135) trivial trivial ⟨⟨⟨N, fun p => f_spec_GetNum.l0.ok N p⟩, trivial⟩, trivial⟩ rfl rfl E135
theorem S135 : ConS Try.prog 135 C135 := B135.call rfl
/-! spec.MsgOf: function 56 -/
noncomputable def f_spec_MsgOf.l0 : Nat → (List Int) → Bool → Int → Int → Int → Bool → (List Int) → (List Int) → Option ((Bool × Int × Int × Bool × List Int) ⊕ (List Int × Bool × Int × Int × Bool × List Int × List Int))
  | 0, _, _, _, _, _, _, _, _ => none
  | n + 1, p181, p182, p183, p184, p185, p186, p187, p188 =>
    bif (decide (p183 < (p181.length : Int))) then
      bif (decide ((p187.length : Int) < (8 : Int))) then
        (f_spec_GetNum p181 p183).bind fun y189 =>
        bif (!y189.2.2) then
          some (.inl (false, 0, 0, false, ([] : List Int)))
        else
          bif (Nat.blt (p187.length + ([y189.1] : List Int).length) 17592186044416) then
          (some ((p187 ++ ([y189.1] : List Int)) : List Int)).bind fun z190 =>
          f_spec_MsgOf.l0 n p181 p182 y189.2.1 p184 p185 p186 z190 p188
          else none
      else
        some (.inr (p181, p182, p184, p185, p186, p187, p188))
    else
      some (.inr (p181, p182, p184, p185, p186, p187, p188))
noncomputable def f_spec_MsgOf (x0 : List Int) : Option (Int × Int × Bool × List Int × Bool) :=
  (f_spec_MsgOf.l0 N x0 false 0 0 0 false ([] : List Int) ([] : List Int)).bind fun r191 =>
  cs r191 (fun a192 =>
    some (a192.2.1, a192.2.2.1, a192.2.2.2.1, a192.2.2.2.2, a192.1)) (fun b193 =>
    bif (decide ((b193.2.2.2.2.2.1.length : Int) < (3 : Int))) then
      some (0, 0, false, [], false)
    else
      bif (decide ((0 : Int) < (b193.2.2.2.2.2.1.length : Int))) then
      bif (decide ((1 : Int) < (b193.2.2.2.2.2.1.length : Int))) then
      bif (decide ((2 : Int) < (b193.2.2.2.2.2.1.length : Int))) then
      bif (decide ((3 : Int) ≤ (b193.2.2.2.2.2.1.length : Int))) then
      bif (Nat.blt (([] : List Int).length + ((b193.2.2.2.2.2.1.drop 3).take ((b193.2.2.2.2.2.1.length : Int) - (3 : Int)).toNat).length) 17592186044416) then
      (some ((([] : List Int) ++ ((b193.2.2.2.2.2.1.drop 3).take ((b193.2.2.2.2.2.1.length : Int) - (3 : Int)).toNat)) : List Int)).bind fun z194 =>
      (f_spec_MsgBytes (b193.2.2.2.2.2.1.getD 0 0) (b193.2.2.2.2.2.1.getD 1 0) (decide ((b193.2.2.2.2.2.1.getD 2 0) = (1 : Int))) z194).bind fun y195 =>
      bif (!((bytesOfRows y195).toList == (bytesOfRows b193.1).toList)) then
        some (0, 0, false, [], false)
      else
        some ((b193.2.2.2.2.2.1.getD 0 0), (b193.2.2.2.2.2.1.getD 1 0), (decide ((b193.2.2.2.2.2.1.getD 2 0) = (1 : Int))), z194, true)
      else none
      else none
      else none
      else none
      else none)
noncomputable def C56 : Con := ⟨[(.B, false, [(.sl R0)])], [(true, [(.int .i64), (.int .i64), .bool, (.sl R1)]), (false, [.bool])], [(.sl R0)], [(.int .i64), (.int .i64), .bool, (.sl R1), .bool], fun (p : List Int) => f_spec_MsgOf p⟩
noncomputable def f_spec_MsgOf.l0.c : LoopCon := ⟨1000, 6, [0, 2, 3, 4, 5], ⟨[(0, .bor none R0 []), (2, .ptr 1000 0), (3, .bool false), (4, .ref 1001 [] none), (5, .int .i64 0)], [(1000, .box [.int .i64 0, .int .i64 0, .bool false, .ref 1002 [] none]), (1001, .row R1 []), (1002, .row R1 [])], 1003⟩, [(.sl R0), .bool, (.int .i64), (.int .i64), (.int .i64), .bool, (.sl R1), (.sl R1)], [⟨.ret, [2, 3], ⟨[(2, .ptr 1000 0), (3, .bool false)], [(1000, .box [.int .i64 0, .int .i64 0, .bool false, .ref 1001 [] none]), (1001, .row R1 [])], 1002⟩, [.bool, (.int .i64), (.int .i64), .bool, (.sl R1)]⟩, ⟨.exit 0, [0, 2, 3, 4], ⟨[(0, .bor none R0 []), (2, .ptr 1000 0), (3, .bool false), (4, .ref 1001 [] none)], [(1000, .box [.int .i64 0, .int .i64 0, .bool false, .ref 1002 [] none]), (1001, .row R1 []), (1002, .row R1 [])], 1003⟩, [(.sl R0), .bool, (.int .i64), (.int .i64), .bool, (.sl R1), (.sl R1)]⟩], fun (p : List Int × Bool × Int × Int × Int × Bool × List Int × List Int) => f_spec_MsgOf.l0 N p.1 p.2.1 p.2.2.1 p.2.2.2.1 p.2.2.2.2.1 p.2.2.2.2.2.1 p.2.2.2.2.2.2.1 p.2.2.2.2.2.2.2⟩
noncomputable abbrev K56 : Cons := [(36, C36), (135, C135)]
noncomputable abbrev L56 : List (Nat × Loops) := [(56, [(3, f_spec_MsgOf.l0.c)])]
abbrev Q56 : List (Nat × List (Int × Nat) × Nat) := []
noncomputable abbrev X56 : Nat → Ctx := ctxOf tb K56 L56 Q56
theorem f_spec_MsgOf.l0.ok : ∀ n p, (fun (p : List Int × Bool × Int × Int × Int × Bool × List Int × List Int) => f_spec_MsgOf.l0 n p.1 p.2.1 p.2.2.1 p.2.2.2.1 p.2.2.2.2.1 p.2.2.2.2.2.1 p.2.2.2.2.2.2.1 p.2.2.2.2.2.2.2) p = iterD (roundOf fs X56 6 56 3 false f_spec_MsgOf.l0.c) n p :=
  iter_of (l := fun n => fun (p : List Int × Bool × Int × Int × Int × Bool × List Int × List Int) => f_spec_MsgOf.l0 n p.1 p.2.1 p.2.2.1 p.2.2.2.1 p.2.2.2.2.1 p.2.2.2.2.2.1 p.2.2.2.2.2.2.1 p.2.2.2.2.2.2.2) (fun _ => rfl) (fun n p => by kernel_rfl)
theorem E56 : ∀ x, funRun fs X56 6 56 C56 x = C56.fn x := fun x => by kernel_rfl
theorem B56 : ConB Try.prog 56 C56 := ConB.make FS MIX TY (cons := K56) (L := L56) (ptrs := Q56) ⟨S36, S135, trivial⟩ trivial ⟨⟨⟨N, fun p => f_spec_MsgOf.l0.ok N p⟩, trivial⟩, trivial⟩ rfl rfl E56
theorem S56 : ConS Try.prog 56 C56 := B56.call rfl
/-! spec.DrawMsgOk: function 57 -/
noncomputable def f_spec_DrawMsgOk.l0 : Nat → (List Int) → Int → Int → Int → Int → Bool → Option (List Int × Int × Int × Int × Bool)
  | 0, _, _, _, _, _, _ => none
  | n + 1, p196, p197, p198, p199, p200, p201 =>
    bif (decide (p198 < (p196.length : Int))) then
      bif (decide (p198 < (4000 : Int))) then
        bif ((decide ((0 : Int) ≤ p198)) && (decide (p198 < (p196.length : Int)))) then
        f_spec_DrawMsgOk.l0 n p196 (bitI .and .i64 (IntKind.wrap .i64 ((IntKind.wrap .i64 ((IntKind.wrap .i64 (p197 * (131 : Int))) + (IntKind.wrap .i64 ((p196.getD p198.toNat 0))))) + (7 : Int))) (1073741823 : Int)) (IntKind.wrap .i64 (p198 + (1 : Int))) p199 p200 p201
        else none
      else
        some (p196, p197, p199, p200, p201)
    else
      some (p196, p197, p199, p200, p201)
noncomputable def f_spec_DrawMsgOk (x0 : List Int) : Option (Int × Int × Bool × List Int) :=
  (f_spec_DrawMsgOk.l0 N x0 (IntKind.wrap .i64 ((20404 : Int) + (x0.length : Int))) 0 0 0 false).bind fun r202 =>
  (f_spec_l1Draw r202.1 0 r202.2.1).bind fun y203 =>
  some (y203.1, y203.2.1, y203.2.2.1, y203.2.2.2.1)
noncomputable def C57 : Con := ⟨[(.B, false, [(.sl R0)])], [(true, [(.int .i64), (.int .i64), .bool, (.sl R1)])], [(.sl R0)], [(.int .i64), (.int .i64), .bool, (.sl R1)], fun (p : List Int) => f_spec_DrawMsgOk p⟩
noncomputable def f_spec_DrawMsgOk.l0.c : LoopCon := ⟨1081, 5, [0, 3, 4], ⟨[(0, .bor none R0 []), (3, .int .i64 0), (4, .int .i64 0)], [(1001, .box [.int .i64 0, .int .i64 0, .bool false, .nil (some R1)])], 1081⟩, [(.sl R0), (.int .i64), (.int .i64), (.int .i64), (.int .i64), .bool], [⟨.exit 0, [0, 3], ⟨[(0, .bor none R0 []), (3, .int .i64 0)], [(1001, .box [.int .i64 0, .int .i64 0, .bool false, .nil (some R1)])], 1081⟩, [(.sl R0), (.int .i64), (.int .i64), (.int .i64), .bool]⟩], fun (p : List Int × Int × Int × Int × Int × Bool) => f_spec_DrawMsgOk.l0 N p.1 p.2.1 p.2.2.1 p.2.2.2.1 p.2.2.2.2.1 p.2.2.2.2.2⟩
noncomputable abbrev K57 : Cons := [(115, C115)]
noncomputable abbrev L57 : List (Nat × Loops) := [(107, [(3, f_spec_DrawMsgOk.l0.c)])]
abbrev Q57 : List (Nat × List (Int × Nat) × Nat) := []
noncomputable abbrev X57 : Nat → Ctx := ctxOf tb K57 L57 Q57
theorem f_spec_DrawMsgOk.l0.ok : ∀ n p, (fun (p : List Int × Int × Int × Int × Int × Bool) => f_spec_DrawMsgOk.l0 n p.1 p.2.1 p.2.2.1 p.2.2.2.1 p.2.2.2.2.1 p.2.2.2.2.2) p = iterD (roundOf fs X57 5 107 3 true f_spec_DrawMsgOk.l0.c) n p :=
  iter_of (l := fun n => fun (p : List Int × Int × Int × Int × Int × Bool) => f_spec_DrawMsgOk.l0 n p.1 p.2.1 p.2.2.1 p.2.2.2.1 p.2.2.2.2.1 p.2.2.2.2.2) (fun _ => rfl) (fun n p => by kernel_rfl)
theorem E57 : ∀ x, funRun fs X57 6 57 C57 x = C57.fn x := fun x => by kernel_rfl
theorem B57 : ConB Try.prog 57 C57 := ConB.make FS MIX TY (cons := K57) (L := L57) (ptrs := Q57) ⟨S115, trivial⟩ trivial ⟨⟨⟨N, fun p => f_spec_DrawMsgOk.l0.ok N p⟩, trivial⟩, trivial⟩ rfl rfl E57
theorem S57 : ConS Try.prog 57 C57 := B57.call rfl
/-! laws.FnMsgs: function 8 -/
noncomputable def f_laws_FnMsgs (x0 : List Int) : Option (Bool) :=
  (f_laws_big x0).bind fun y204 =>
  bif y204 then
    some true
  else
    (f_spec_DrawMsgBytes x0).bind fun y205 =>
    (f_impl_MsgBytes y205.1 y205.2.1 y205.2.2.1 y205.2.2.2).bind fun y206 =>
    (f_spec_MsgBytes y205.1 y205.2.1 y205.2.2.1 y205.2.2.2).bind fun y207 =>
    bif (!((bytesOfRows y206).toList == (bytesOfRows y207).toList)) then
      some false
    else
      (f_impl_MsgOk y205.1 y205.2.1 y205.2.2.1 y205.2.2.2).bind fun y208 =>
      bif (!((decide ((0 : Int) < (y206.length : Int))) == y208)) then
        some false
      else
        bif (decide ((0 : Int) < (y206.length : Int))) then
          (f_impl_MsgOf y206).bind fun y209 =>
          bif (!y209.2.2.2.2) then
            some false
          else
            bif (!(decide (y209.1 = y205.1))) then
              some false
            else
              bif (!(decide (y209.2.1 = y205.2.1))) then
                some false
              else
                bif (!(y209.2.2.1 == y205.2.2.1)) then
                  some false
                else
                  (f_laws_sameInts y209.2.2.2.1 y205.2.2.2).bind fun y210 =>
                  bif (!y210) then
                    some false
                  else
                    (f_spec_DrawMsgOf x0).bind fun y211 =>
                    (f_impl_MsgOf y211).bind fun y212 =>
                    (f_spec_MsgOf y211).bind fun y213 =>
                    (f_spec_DrawMsgOk x0).bind fun y214 =>
                    (f_impl_MsgOk y214.1 y214.2.1 y214.2.2.1 y214.2.2.2).bind fun y215 =>
                    (f_spec_MsgOk y214.1 y214.2.1 y214.2.2.1 y214.2.2.2).bind fun y216 =>
                    bif (y215 == y216) then
                      bif (y212.2.2.2.2 == y213.2.2.2.2) then
                        bif (!y212.2.2.2.2) then
                          bif (decide (y212.1 = (0 : Int))) then
                            some true
                          else
                            bif y212.2.2.2.2 then
                              (f_impl_MsgBytes y212.1 y212.2.1 y212.2.2.1 y212.2.2.2.1).bind fun y217 =>
                              some ((bytesOfRows y217).toList == (bytesOfRows y211).toList)
                            else
                              some false
                        else
                          bif y212.2.2.2.2 then
                            (f_impl_MsgBytes y212.1 y212.2.1 y212.2.2.1 y212.2.2.2.1).bind fun y218 =>
                            some ((bytesOfRows y218).toList == (bytesOfRows y211).toList)
                          else
                            some false
                      else
                        some false
                    else
                      some false
        else
          (f_spec_DrawMsgOf x0).bind fun y219 =>
          (f_impl_MsgOf y219).bind fun y220 =>
          (f_spec_MsgOf y219).bind fun y221 =>
          (f_spec_DrawMsgOk x0).bind fun y222 =>
          (f_impl_MsgOk y222.1 y222.2.1 y222.2.2.1 y222.2.2.2).bind fun y223 =>
          (f_spec_MsgOk y222.1 y222.2.1 y222.2.2.1 y222.2.2.2).bind fun y224 =>
          bif (y223 == y224) then
            bif (y220.2.2.2.2 == y221.2.2.2.2) then
              bif (!y220.2.2.2.2) then
                bif (decide (y220.1 = (0 : Int))) then
                  some true
                else
                  bif y220.2.2.2.2 then
                    (f_impl_MsgBytes y220.1 y220.2.1 y220.2.2.1 y220.2.2.2.1).bind fun y225 =>
                    some ((bytesOfRows y225).toList == (bytesOfRows y219).toList)
                  else
                    some false
              else
                bif y220.2.2.2.2 then
                  (f_impl_MsgBytes y220.1 y220.2.1 y220.2.2.1 y220.2.2.2.1).bind fun y226 =>
                  some ((bytesOfRows y226).toList == (bytesOfRows y219).toList)
                else
                  some false
            else
              some false
          else
            some false
noncomputable def C8 : Con := ⟨[(.B, false, [(.sl R0)])], [(false, [.bool])], [(.sl R0)], [.bool], fun (p : List Int) => f_laws_FnMsgs p⟩
noncomputable abbrev K8 : Cons := [(26, C26), (34, C34), (35, C35), (36, C36), (37, C37), (38, C38), (43, C43), (45, C45), (55, C55), (56, C56), (57, C57)]
noncomputable abbrev L8 : List (Nat × Loops) := []
abbrev Q8 : List (Nat × List (Int × Nat) × Nat) := []
noncomputable abbrev X8 : Nat → Ctx := ctxOf tb K8 L8 Q8
theorem E8 : ∀ x, funRun fs X8 6 8 C8 x = C8.fn x := fun x => by kernel_rfl
theorem B8 : ConB Try.prog 8 C8 := ConB.make FS MIX TY (cons := K8) (L := L8) (ptrs := Q8) ⟨S26, S34, S35, S36, S37, S38, S43, S45, S55, S56, S57, trivial⟩ trivial trivial rfl rfl E8
theorem S8 : ConS Try.prog 8 C8 := B8.call rfl
/-- What is left: the plain law. -/
def Pure : Prop := ∀ x : Tup [(.sl R0)], WfT [(.sl R0)] x → C8.fn x = some (true : Bool)
end
end Go.Abs
