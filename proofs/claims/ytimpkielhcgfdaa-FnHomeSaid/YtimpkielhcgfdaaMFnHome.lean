import Derived.Test.YtimpkielhcgfdaaProg
import Derived.Test.YtimpkielhcgfdaaAbtD
import Derived.KernelRfl
namespace Go.Abs
open Go.Proofs
set_option linter.unusedVariables false
set_option maxRecDepth 100000
noncomputable section
abbrev N : Nat := 1152921504606846976
abbrev R0 : RT := .one (.int .u8)
abbrev R1 : RT := .one (.int .i64)
abbrev R2 : RT := .one .bool
abbrev R3 : RT := .cons (.int .i64) (.one .bool)
abbrev R4 : RT := .cons (.int .i64) (.cons (.int .i64) (.cons (.int .i64) (.cons .bool (.one (.sl R1)))))
noncomputable def tb : Tb := [(0, ⟨false, [], [], 0, 0⟩),
  (3, ⟨false, [(.int .i64)], [], 0, 8⟩),
  (4, ⟨false, [.bool], [], 0, 1⟩),
  (5, ⟨false, [(.int .u8)], [], 0, 1⟩),
  (22, ⟨false, [(.sl R1)], [], 3, 24⟩),
  (35, ⟨false, [(.sl R0)], [], 5, 24⟩),
  (51, ⟨true, [(.int .i64), (.int .i64), .bool, (.sl R1)], [(0, 3), (1, 3), (2, 4), (3, 22)], 0, 48⟩),
  (117, ⟨false, [(.sl R2)], [], 4, 24⟩),
  (119, ⟨true, [(.int .i64), .bool], [(0, 3), (1, 4)], 0, 16⟩),
  (120, ⟨false, [(.sl R3)], [], 119, 24⟩),
  (122, ⟨true, [(.sl R1), (.int .i64), (.sl R2), .bool, (.int .i64), .bool, (.int .i64), (.sl R3)], [(0, 22), (1, 3), (2, 117), (3, 4), (4, 119), (6, 3), (7, 120)], 0, 112⟩),
  (123, ⟨false, [], [], 0, 0⟩),
  (125, ⟨false, [(.sl R4)], [], 131, 24⟩),
  (126, ⟨false, [], [], 0, 0⟩),
  (131, ⟨true, [(.int .i64), (.int .i64), (.int .i64), .bool, (.sl R1)], [(0, 3), (1, 51)], 0, 56⟩),
  (132, ⟨false, [], [], 0, 0⟩),
  (150, ⟨false, [], [], 0, 8⟩),
  (156, ⟨false, [], [], 0, 8⟩),
  (186, ⟨false, [], [], 0, 8⟩),
  (188, ⟨true, [(.sl R1), (.int .i64), (.sl R2), .bool, (.int .i64), .bool, (.int .i64), (.sl R3), (.int .i64), (.sl R4)], [(0, 122), (8, 3), (9, 125)], 0, 144⟩),
  (189, ⟨false, [], [], 0, 8⟩),
  (191, ⟨true, [(.sl R1), (.int .i64), (.sl R2), .bool, (.int .i64), .bool, (.int .i64), (.sl R3), (.int .i64), (.sl R4)], [(0, 122), (8, 3), (9, 125)], 0, 144⟩),
  (195, ⟨false, [], [], 0, 8⟩),
  (200, ⟨true, [(.sl R0), (.int .i64), (.int .i64)], [(0, 35), (1, 3), (2, 3)], 0, 40⟩)]
noncomputable def fsL : List (Nat × Func) := [(26, Try.f26), (107, Try.f107), (97, Try.f97), (94, Try.f94), (177, Try.f177), (109, Try.f109), (110, Try.f110), (188, Try.f188), (126, Try.f126), (90, Try.f90), (45, Try.f45), (165, Try.f165), (200, Try.f200), (199, Try.f199), (166, Try.f166), (167, Try.f167), (87, Try.f87), (196, Try.f196), (161, Try.f161), (141, Try.f141), (134, Try.f134), (115, Try.f115), (85, Try.f85), (103, Try.f103), (137, Try.f137), (180, Try.f180), (207, Try.f207), (179, Try.f179), (120, Try.f120), (142, Try.f142), (169, Try.f169), (201, Try.f201), (168, Try.f168), (89, Try.f89), (119, Try.f119), (37, Try.f37), (100, Try.f100), (197, Try.f197), (198, Try.f198), (162, Try.f162), (163, Try.f163), (164, Try.f164), (86, Try.f86), (43, Try.f43), (88, Try.f88), (91, Try.f91), (92, Try.f92), (93, Try.f93), (14, Try.f14)]
noncomputable def fs : Nat → Option Func := getF fsL
theorem MIX : Try.prog.follows .mixedOrders = true := by kernel_rfl
theorem TY : tyCheck Try.prog tb = true := by kernel_rfl
theorem CAT : catCheck tb = true := by kernel_rfl
theorem FSP : FsP Try.prog fsL := ⟨Try.func26, Try.func107, Try.func97, Try.func94, Try.func177, Try.func109, Try.func110, Try.func188, Try.func126, Try.func90, Try.func45, Try.func165, Try.func200, Try.func199, Try.func166, Try.func167, Try.func87, Try.func196, Try.func161, Try.func141, Try.func134, Try.func115, Try.func85, Try.func103, Try.func137, Try.func180, Try.func207, Try.func179, Try.func120, Try.func142, Try.func169, Try.func201, Try.func168, Try.func89, Try.func119, Try.func37, Try.func100, Try.func197, Try.func198, Try.func162, Try.func163, Try.func164, Try.func86, Try.func43, Try.func88, Try.func91, Try.func92, Try.func93, Try.func14, trivial⟩
theorem FSC : (fsL.all fun p => fnChk p.2) = true := by kernel_rfl
theorem FS : FsS Try.prog fs := FsS.of FSP FSC
/-! laws.big: function 26 -/
noncomputable def f_laws_big (x0 : List Int) : Option (Bool) :=
  some (decide ((1048576 : Int) < (x0.length : Int)))
noncomputable def C26 : Con := ⟨[(.B, false, [(.sl R0)])], [(false, [.bool])], [(.sl R0)], [.bool], fun (p : List Int) => f_laws_big p⟩
noncomputable abbrev K26 : Cons := []
noncomputable abbrev L26 : List (Nat × Loops) := []
abbrev Q26 : List (Nat × List (Int × Nat) × Nat) := []
noncomputable abbrev X26 : Nat → Ctx := ctxOf tb K26 L26 Q26
theorem E26 : ∀ x, funRun fs X26 6 26 C26 x = C26.fn x := fun x => by kernel_rfl
theorem B26 : ConB Try.prog 26 C26 := ConB.make FS MIX TY (cons := K26) (L := L26) (ptrs := Q26) trivial trivial trivial rfl rfl E26
theorem S26 : ConS Try.prog 26 C26 := B26.call rfl
/-! spec.l1In: function 97 -/
noncomputable def f_spec_l1In (x0 : Int) (x1 : Int) (x2 : Int) : Option (Bool) :=
  bif (decide (x1 ≤ x0)) then
    some (decide (x0 ≤ x2))
  else
    some false
noncomputable def C97 : Con := ⟨[(.B, false, [(.int .i64)]), (.B, false, [(.int .i64)]), (.B, false, [(.int .i64)])], [(false, [.bool])], [(.int .i64), (.int .i64), (.int .i64)], [.bool], fun (p : Int × Int × Int) => f_spec_l1In p.1 p.2.1 p.2.2⟩
noncomputable abbrev K97 : Cons := []
noncomputable abbrev L97 : List (Nat × Loops) := []
abbrev Q97 : List (Nat × List (Int × Nat) × Nat) := []
noncomputable abbrev X97 : Nat → Ctx := ctxOf tb K97 L97 Q97
theorem E97 : ∀ x, funRun fs X97 6 97 C97 x = C97.fn x := fun x => by kernel_rfl
theorem B97 : ConB Try.prog 97 C97 := ConB.make FS MIX TY (cons := K97) (L := L97) (ptrs := Q97) trivial trivial trivial rfl rfl E97
theorem S97 : ConS Try.prog 97 C97 := B97.call rfl
/-! spec.HomeNew: function 94 -/
noncomputable def f_spec_HomeNew (x0 : Int) : Option (List Int × Int × List Bool × Bool × Int × Bool × Int × (List (Int × Bool))) :=
  (f_spec_l1In x0 1 4).bind fun y1 =>
  bif (!y1) then
    some ([], 0, [], false, 0, false, 0, [])
  else
    bif (decide ((0 : Int) ≤ x0) && Nat.ble x0.toNat 140737488355328) then
    some ((List.replicate 4 0), -1, (List.replicate x0.toNat false), false, 0, false, 0, [])
    else none
noncomputable def C94 : Con := ⟨[(.B, false, [(.int .i64)])], [(true, [(.sl R1), (.int .i64), (.sl R2), .bool, (.int .i64), .bool, (.int .i64), (.sl R3)])], [(.int .i64)], [(.sl R1), (.int .i64), (.sl R2), .bool, (.int .i64), .bool, (.int .i64), (.sl R3)], fun (p : Int) => f_spec_HomeNew p⟩
noncomputable abbrev K94 : Cons := [(97, C97)]
noncomputable abbrev L94 : List (Nat × Loops) := []
abbrev Q94 : List (Nat × List (Int × Nat) × Nat) := []
noncomputable abbrev X94 : Nat → Ctx := ctxOf tb K94 L94 Q94
theorem E94 : ∀ x, funRun fs X94 6 94 C94 x = C94.fn x := fun x => by kernel_rfl
theorem B94 : ConB Try.prog 94 C94 := ConB.make FS MIX TY (cons := K94) (L := L94) (ptrs := Q94) ⟨S97, trivial⟩ trivial trivial rfl rfl E94
theorem S94 : ConS Try.prog 94 C94 := B94.call rfl
/-! spec.l1Byte: function 177 -/
noncomputable def f_spec_l1Byte (x0 : List Int) (x1 : Int) (x2 : Int) : Option (Int × Int × Int) :=
  bif (decide (x1 < (x0.length : Int))) then
    bif ((decide ((0 : Int) ≤ x1)) && (decide (x1 < (x0.length : Int)))) then
    some ((bitI .and .i64 (IntKind.wrap .i64 ((bitI .and .i64 (bitI .xor .i64 (shrI .i64 (IntKind.wrap .i64 ((IntKind.wrap .i64 (x2 * (6364136223846793005 : Int))) + (1442695040888963407 : Int))) (33 : Int)) (shrI .i64 (IntKind.wrap .i64 ((IntKind.wrap .i64 (x2 * (6364136223846793005 : Int))) + (1442695040888963407 : Int))) (45 : Int))) (255 : Int)) + (IntKind.wrap .i64 ((x0.getD x1.toNat 0))))) (255 : Int)), (IntKind.wrap .i64 (x1 + (1 : Int))), (IntKind.wrap .i64 ((IntKind.wrap .i64 (x2 * (6364136223846793005 : Int))) + (1442695040888963407 : Int))))
    else none
  else
    some ((bitI .and .i64 (bitI .xor .i64 (shrI .i64 (IntKind.wrap .i64 ((IntKind.wrap .i64 (x2 * (6364136223846793005 : Int))) + (1442695040888963407 : Int))) (33 : Int)) (shrI .i64 (IntKind.wrap .i64 ((IntKind.wrap .i64 (x2 * (6364136223846793005 : Int))) + (1442695040888963407 : Int))) (45 : Int))) (255 : Int)), x1, (IntKind.wrap .i64 ((IntKind.wrap .i64 (x2 * (6364136223846793005 : Int))) + (1442695040888963407 : Int))))
noncomputable def C177 : Con := ⟨[(.P [false, true, true], false, [(.sl R0), (.int .i64), (.int .i64)])], [(false, [(.int .i64)])], [(.sl R0), (.int .i64), (.int .i64)], [(.int .i64), (.int .i64), (.int .i64)], fun (p : List Int × Int × Int) => f_spec_l1Byte p.1 p.2.1 p.2.2⟩
noncomputable abbrev K177 : Cons := []
noncomputable abbrev L177 : List (Nat × Loops) := []
abbrev Q177 : List (Nat × List (Int × Nat) × Nat) := []
noncomputable abbrev X177 : Nat → Ctx := ctxOf tb K177 L177 Q177
theorem E177 : ∀ x, funG fs X177 6 177 C177 x = C177.fn x := fun x => by kernel_rfl
theorem B177 : ConG Try.prog 177 C177 := ConG.make FS MIX TY (cons := K177) (L := L177) (ptrs := Q177) trivial trivial trivial rfl (by kernel_rfl) E177
theorem S177 : ConS Try.prog 177 C177 := B177.call (by kernel_rfl)
/-! spec.l1Below: function 109 -/
noncomputable def f_spec_l1Below (x0 : List Int) (x1 : Int) (x2 : Int) (x3 : Int) : Option (Int × Int × Int) :=
  bif (decide (x3 ≤ (0 : Int))) then
    some (0, x1, x2)
  else
    bif (decide (x3 ≤ (256 : Int))) then
      (f_spec_l1Byte x0 x1 x2).bind fun y2 =>
      bif (decide (x3 = (0 : Int))) then none else
      some ((Int.tmod y2.1 x3), y2.2.1, y2.2.2)
    else
      (f_spec_l1Byte x0 x1 x2).bind fun y3 =>
      (f_spec_l1Byte x0 y3.2.1 y3.2.2).bind fun y4 =>
      (f_spec_l1Byte x0 y4.2.1 y4.2.2).bind fun y5 =>
      (f_spec_l1Byte x0 y5.2.1 y5.2.2).bind fun y6 =>
      bif (decide (x3 = (0 : Int))) then none else
      some ((Int.tmod (IntKind.wrap .i64 ((IntKind.wrap .i64 ((IntKind.wrap .i64 ((IntKind.wrap .i64 (y3.1 * (16777216 : Int))) + (IntKind.wrap .i64 (y4.1 * (65536 : Int))))) + (IntKind.wrap .i64 (y5.1 * (256 : Int))))) + y6.1)) x3), y6.2.1, y6.2.2)
noncomputable def C109 : Con := ⟨[(.P [false, true, true], false, [(.sl R0), (.int .i64), (.int .i64)]), (.B, false, [(.int .i64)])], [(false, [(.int .i64)])], [(.sl R0), (.int .i64), (.int .i64), (.int .i64)], [(.int .i64), (.int .i64), (.int .i64)], fun (p : List Int × Int × Int × Int) => f_spec_l1Below p.1 p.2.1 p.2.2.1 p.2.2.2⟩
noncomputable abbrev K109 : Cons := [(177, C177)]
noncomputable abbrev L109 : List (Nat × Loops) := []
abbrev Q109 : List (Nat × List (Int × Nat) × Nat) := []
noncomputable abbrev X109 : Nat → Ctx := ctxOf tb K109 L109 Q109
theorem E109 : ∀ x, funG fs X109 6 109 C109 x = C109.fn x := fun x => by kernel_rfl
theorem B109 : ConG Try.prog 109 C109 := ConG.make FS MIX TY (cons := K109) (L := L109) (ptrs := Q109) ⟨S177, trivial⟩ trivial trivial rfl (by kernel_rfl) E109
theorem S109 : ConS Try.prog 109 C109 := B109.call (by kernel_rfl)
/-! spec.l1PickInt: function 110 -/
noncomputable def f_spec_l1PickInt (x0 : List Int) (x1 : Int) (x2 : Int) (x3 : List Int) : Option (Int × Int × Int) :=
  (f_spec_l1Below x0 x1 x2 (x3.length : Int)).bind fun y7 =>
  bif ((decide ((0 : Int) ≤ y7.1)) && (decide (y7.1 < (x3.length : Int)))) then
  some ((x3.getD y7.1.toNat 0), y7.2.1, y7.2.2)
  else none
noncomputable def C110 : Con := ⟨[(.P [false, true, true], false, [(.sl R0), (.int .i64), (.int .i64)]), (.B, false, [(.sl R1)])], [(false, [(.int .i64)])], [(.sl R0), (.int .i64), (.int .i64), (.sl R1)], [(.int .i64), (.int .i64), (.int .i64)], fun (p : List Int × Int × Int × List Int) => f_spec_l1PickInt p.1 p.2.1 p.2.2.1 p.2.2.2⟩
noncomputable abbrev K110 : Cons := [(109, C109)]
noncomputable abbrev L110 : List (Nat × Loops) := []
abbrev Q110 : List (Nat × List (Int × Nat) × Nat) := []
noncomputable abbrev X110 : Nat → Ctx := ctxOf tb K110 L110 Q110
theorem E110 : ∀ x, funG fs X110 6 110 C110 x = C110.fn x := fun x => by kernel_rfl
theorem B110 : ConG Try.prog 110 C110 := ConG.make FS MIX TY (cons := K110) (L := L110) (ptrs := Q110) ⟨S109, trivial⟩ trivial trivial rfl (by kernel_rfl) E110
theorem S110 : ConS Try.prog 110 C110 := B110.call (by kernel_rfl)
/-! spec.l1DrawList: function 188 -/
noncomputable def f_spec_l1DrawList.l0 : Nat → Int → (List Int) → Int → Int → (List Int) → Option (List Int × Int × Int × List Int)
  | 0, _, _, _, _, _ => none
  | n + 1, p8, p9, p10, p11, p12 =>
    bif (decide (p8 < (4 : Int))) then
      (f_spec_l1PickInt p9 p10 p11 ([0, 1, 5, 300, 65535] : List Int)).bind fun y13 =>
      bif (Nat.blt (p12.length + ([y13.1] : List Int).length) 17592186044416) then
      (some ((p12 ++ ([y13.1] : List Int)) : List Int)).bind fun z14 =>
      f_spec_l1DrawList.l0 n (IntKind.wrap .i64 (p8 + (1 : Int))) p9 y13.2.1 y13.2.2 z14
      else none
    else
      some (p9, p10, p11, p12)
noncomputable def f_spec_l1DrawList (x0 : List Int) (x1 : Int) (x2 : Int) : Option (List Int × Int × Int) :=
  (f_spec_l1DrawList.l0 N 0 x0 x1 x2 ([] : List Int)).bind fun r15 =>
  some (r15.2.2.2, r15.2.1, r15.2.2.1)
noncomputable def C188 : Con := ⟨[(.P [false, true, true], false, [(.sl R0), (.int .i64), (.int .i64)])], [(false, [(.sl R1)])], [(.sl R0), (.int .i64), (.int .i64)], [(.sl R1), (.int .i64), (.int .i64)], fun (p : List Int × Int × Int) => f_spec_l1DrawList p.1 p.2.1 p.2.2⟩
noncomputable def f_spec_l1DrawList.l0.c : LoopCon := ⟨1000, 6, [0, 2, 3, 4], ⟨[(0, .ptr 500 0), (2, .nil (some R1)), (3, .ref 1000 [] none), (4, .int .i64 0)], [(500, .box [.bor (some 0) R0 [], .int .i64 0, .int .i64 0]), (1000, .row R1 [])], 1001⟩, [(.int .i64), (.sl R0), (.int .i64), (.int .i64), (.sl R1)], [⟨.exit 0, [2, 3], ⟨[(2, .nil (some R1)), (3, .ref 1000 [] none)], [(500, .box [.bor (some 0) R0 [], .int .i64 0, .int .i64 0]), (1000, .row R1 [])], 1001⟩, [(.sl R0), (.int .i64), (.int .i64), (.sl R1)]⟩], fun (p : Int × List Int × Int × Int × List Int) => f_spec_l1DrawList.l0 N p.1 p.2.1 p.2.2.1 p.2.2.2.1 p.2.2.2.2⟩
noncomputable abbrev K188 : Cons := [(110, C110)]
noncomputable abbrev L188 : List (Nat × Loops) := [(188, [(3, f_spec_l1DrawList.l0.c)])]
abbrev Q188 : List (Nat × List (Int × Nat) × Nat) := []
noncomputable abbrev X188 : Nat → Ctx := ctxOf tb K188 L188 Q188
theorem f_spec_l1DrawList.l0.ok : ∀ n p, (fun (p : Int × List Int × Int × Int × List Int) => f_spec_l1DrawList.l0 n p.1 p.2.1 p.2.2.1 p.2.2.2.1 p.2.2.2.2) p = iterD (roundOf fs X188 6 188 3 false f_spec_l1DrawList.l0.c) n p :=
  iter_of (l := fun n => fun (p : Int × List Int × Int × Int × List Int) => f_spec_l1DrawList.l0 n p.1 p.2.1 p.2.2.1 p.2.2.2.1 p.2.2.2.2) (fun _ => rfl) (fun n p => by kernel_rfl)
theorem E188 : ∀ x, funG fs X188 6 188 C188 x = C188.fn x := fun x => by kernel_rfl
theorem B188 : ConG Try.prog 188 C188 := ConG.make FS MIX TY (cons := K188) (L := L188) (ptrs := Q188) ⟨S110, trivial⟩ trivial ⟨⟨⟨N, fun p => f_spec_l1DrawList.l0.ok N p⟩, trivial⟩, trivial⟩ rfl (by kernel_rfl) E188
theorem S188 : ConS Try.prog 188 C188 := B188.call (by kernel_rfl)
/-! spec.l1Words: function 126 -/
noncomputable def f_spec_l1Words.l0 : Nat → (List Int) → Int → Bool → Int → Option ((Bool) ⊕ (List Int × Int × Bool))
  | 0, _, _, _, _ => none
  | n + 1, p16, p17, p18, p19 =>
    bif (decide (p19 < (p16.length : Int))) then
      bif ((decide ((0 : Int) ≤ p19)) && (decide (p19 < (p16.length : Int)))) then
      (f_spec_l1In (p16.getD p19.toNat 0) 0 65535).bind fun y20 =>
      bif (!y20) then
        some (.inl false)
      else
        f_spec_l1Words.l0 n p16 p17 p18 (IntKind.wrap .i64 (p19 + (1 : Int)))
      else none
    else
      some (.inr (p16, p17, p18))
noncomputable def f_spec_l1Words (x0 : List Int) (x1 : Int) : Option (Bool) :=
  (f_spec_l1Words.l0 N x0 x1 false 0).bind fun r21 =>
  cs r21 (fun a22 =>
    some a22) (fun b23 =>
    some (decide ((b23.1.length : Int) = b23.2.1)))
noncomputable def C126 : Con := ⟨[(.B, false, [(.sl R1)]), (.B, false, [(.int .i64)])], [(false, [.bool])], [(.sl R1), (.int .i64)], [.bool], fun (p : List Int × Int) => f_spec_l1Words p.1 p.2⟩
noncomputable def f_spec_l1Words.l0.c : LoopCon := ⟨1000, 6, [0, 1, 4, 5], ⟨[(0, .bor none R1 []), (1, .int .i64 0), (4, .bool false), (5, .int .i64 0)], [], 1000⟩, [(.sl R1), (.int .i64), .bool, (.int .i64)], [⟨.ret, [4], ⟨[(4, .bool false)], [], 1000⟩, [.bool]⟩, ⟨.exit 0, [0, 1, 4], ⟨[(0, .bor none R1 []), (1, .int .i64 0), (4, .bool false)], [], 1000⟩, [(.sl R1), (.int .i64), .bool]⟩], fun (p : List Int × Int × Bool × Int) => f_spec_l1Words.l0 N p.1 p.2.1 p.2.2.1 p.2.2.2⟩
noncomputable abbrev K126 : Cons := [(97, C97)]
noncomputable abbrev L126 : List (Nat × Loops) := [(126, [(2, f_spec_l1Words.l0.c)])]
abbrev Q126 : List (Nat × List (Int × Nat) × Nat) := []
noncomputable abbrev X126 : Nat → Ctx := ctxOf tb K126 L126 Q126
theorem f_spec_l1Words.l0.ok : ∀ n p, (fun (p : List Int × Int × Bool × Int) => f_spec_l1Words.l0 n p.1 p.2.1 p.2.2.1 p.2.2.2) p = iterD (roundOf fs X126 6 126 2 false f_spec_l1Words.l0.c) n p :=
  iter_of (l := fun n => fun (p : List Int × Int × Bool × Int) => f_spec_l1Words.l0 n p.1 p.2.1 p.2.2.1 p.2.2.2) (fun _ => rfl) (fun n p => by kernel_rfl)
theorem E126 : ∀ x, funRun fs X126 6 126 C126 x = C126.fn x := fun x => by kernel_rfl
theorem B126 : ConB Try.prog 126 C126 := ConB.make FS MIX TY (cons := K126) (L := L126) (ptrs := Q126) ⟨S97, trivial⟩ trivial ⟨⟨⟨N, fun p => f_spec_l1Words.l0.ok N p⟩, trivial⟩, trivial⟩ rfl rfl E126
theorem S126 : ConS Try.prog 126 C126 := B126.call rfl
/-! spec.HomeOk: function 90 -/
noncomputable def f_spec_HomeOk.l0 : Nat → Int → Bool → Int → (List Int) → Int → (List Bool) → Bool → Int → Bool → Int → (List (Int × Bool)) → Option ((Bool) ⊕ (Bool))
  | 0, _, _, _, _, _, _, _, _, _, _, _ => none
  | n + 1, p29, p30, p31, p32, p33, p34, p35, p36, p37, p38, p39 =>
    bif (decide (p31 < (p39.length : Int))) then
      bif ((decide ((0 : Int) ≤ p31)) && (decide (p31 < (p39.length : Int)))) then
      (f_spec_l1In ((p39.getD p31.toNat (0, false)).1) 0 (IntKind.wrap .i64 (p29 - (1 : Int)))).bind fun y40 =>
      bif (!y40) then
        some (.inl false)
      else
        f_spec_HomeOk.l0 n p29 p30 (IntKind.wrap .i64 (p31 + (1 : Int))) p32 p33 p34 p35 p36 p37 p38 p39
      else none
    else
      some (.inr p30)
noncomputable def f_spec_HomeOk (x0 : List Int) (x1 : Int) (x2 : List Bool) (x3 : Bool) (x4 : Int) (x5 : Bool) (x6 : Int) (x7 : List (Int × Bool)) (x8 : Int) : Option (Bool) :=
  (f_spec_l1In x8 1 4).bind fun y24 =>
  bif (!y24) then
    some false
  else
    (f_spec_l1Words x0 4).bind fun y25 =>
    bif (!y25) then
      some false
    else
      (f_spec_l1In x1 (-1) (IntKind.wrap .i64 (x8 - (1 : Int)))).bind fun y26 =>
      bif (!y26) then
        some false
      else
        bif (!(decide ((x2.length : Int) = x8))) then
          some false
        else
          (f_spec_l1In x4 0 (IntKind.wrap .i64 (x8 - (1 : Int)))).bind fun y27 =>
          bif (!y27) then
            some false
          else
            (f_spec_l1In x6 0 x8).bind fun y28 =>
            bif (!y28) then
              some false
            else
              bif (decide ((12 : Int) < (x7.length : Int))) then
                some false
              else
                (f_spec_HomeOk.l0 N x8 false 0 x0 x1 x2 x3 x4 x5 x6 x7).bind fun r41 =>
                cs r41 (fun a42 =>
                  some a42) (fun b43 =>
                  some true)
noncomputable def C90 : Con := ⟨[(.B, true, [(.sl R1), (.int .i64), (.sl R2), .bool, (.int .i64), .bool, (.int .i64), (.sl R3)]), (.B, false, [(.int .i64)])], [(false, [.bool])], [(.sl R1), (.int .i64), (.sl R2), .bool, (.int .i64), .bool, (.int .i64), (.sl R3), (.int .i64)], [.bool], fun (p : List Int × Int × List Bool × Bool × Int × Bool × Int × (List (Int × Bool)) × Int) => f_spec_HomeOk p.1 p.2.1 p.2.2.1 p.2.2.2.1 p.2.2.2.2.1 p.2.2.2.2.2.1 p.2.2.2.2.2.2.1 p.2.2.2.2.2.2.2.1 p.2.2.2.2.2.2.2.2⟩
noncomputable def f_spec_HomeOk.l0.c : LoopCon := ⟨1000, 6, [1, 2, 4, 5], ⟨[(1, .int .i64 0), (2, .ptr 1000 0), (4, .bool false), (5, .int .i64 0)], [(1000, .box [.bor none R1 [], .int .i64 0, .bor none R2 [], .bool false, .int .i64 0, .bool false, .int .i64 0, .bor none R3 []])], 1001⟩, [(.int .i64), .bool, (.int .i64), (.sl R1), (.int .i64), (.sl R2), .bool, (.int .i64), .bool, (.int .i64), (.sl R3)], [⟨.ret, [4], ⟨[(4, .bool false)], [], 1000⟩, [.bool]⟩, ⟨.exit 0, [4], ⟨[(4, .bool false)], [], 1000⟩, [.bool]⟩], fun (p : Int × Bool × Int × List Int × Int × List Bool × Bool × Int × Bool × Int × (List (Int × Bool))) => f_spec_HomeOk.l0 N p.1 p.2.1 p.2.2.1 p.2.2.2.1 p.2.2.2.2.1 p.2.2.2.2.2.1 p.2.2.2.2.2.2.1 p.2.2.2.2.2.2.2.1 p.2.2.2.2.2.2.2.2.1 p.2.2.2.2.2.2.2.2.2.1 p.2.2.2.2.2.2.2.2.2.2⟩
noncomputable abbrev K90 : Cons := [(97, C97), (126, C126)]
noncomputable abbrev L90 : List (Nat × Loops) := [(90, [(4, f_spec_HomeOk.l0.c)])]
abbrev Q90 : List (Nat × List (Int × Nat) × Nat) := []
noncomputable abbrev X90 : Nat → Ctx := ctxOf tb K90 L90 Q90
theorem f_spec_HomeOk.l0.ok : ∀ n p, (fun (p : Int × Bool × Int × List Int × Int × List Bool × Bool × Int × Bool × Int × (List (Int × Bool))) => f_spec_HomeOk.l0 n p.1 p.2.1 p.2.2.1 p.2.2.2.1 p.2.2.2.2.1 p.2.2.2.2.2.1 p.2.2.2.2.2.2.1 p.2.2.2.2.2.2.2.1 p.2.2.2.2.2.2.2.2.1 p.2.2.2.2.2.2.2.2.2.1 p.2.2.2.2.2.2.2.2.2.2) p = iterD (roundOf fs X90 6 90 4 false f_spec_HomeOk.l0.c) n p :=
  iter_of (l := fun n => fun (p : Int × Bool × Int × List Int × Int × List Bool × Bool × Int × Bool × Int × (List (Int × Bool))) => f_spec_HomeOk.l0 n p.1 p.2.1 p.2.2.1 p.2.2.2.1 p.2.2.2.2.1 p.2.2.2.2.2.1 p.2.2.2.2.2.2.1 p.2.2.2.2.2.2.2.1 p.2.2.2.2.2.2.2.2.1 p.2.2.2.2.2.2.2.2.2.1 p.2.2.2.2.2.2.2.2.2.2) (fun _ => rfl) (fun n p => by kernel_rfl)
theorem E90 : ∀ x, funRun fs X90 6 90 C90 x = C90.fn x := fun x => by kernel_rfl
theorem B90 : ConB Try.prog 90 C90 := ConB.make FS MIX TY (cons := K90) (L := L90) (ptrs := Q90) ⟨S97, S126, trivial⟩ trivial ⟨⟨⟨N, fun p => f_spec_HomeOk.l0.ok N p⟩, trivial⟩, trivial⟩ rfl rfl E90
theorem S90 : ConS Try.prog 90 C90 := B90.call rfl
/-! spec.MsgOk: function 45 -/
noncomputable def f_spec_MsgOk (x0 : Int) (x1 : Int) (x2 : Bool) (x3 : List Int) : Option (Bool) :=
  bif (decide (x0 = (3 : Int))) then
    bif (decide (x0 = (3 : Int))) then
      (f_spec_l1In x0 1 7).bind fun y44 =>
      bif y44 then
        (f_spec_l1In x1 0 5).bind fun y45 =>
        bif y45 then
          (f_spec_l1Words x3 4).bind fun y46 =>
          some y46
        else
          some false
      else
        some false
    else
      (f_spec_l1In x0 1 7).bind fun y47 =>
      bif y47 then
        (f_spec_l1In x1 0 5).bind fun y48 =>
        bif y48 then
          bif (decide (x0 = (6 : Int))) then
            (f_spec_l1Words x3 4).bind fun y49 =>
            some y49
          else
            bif (!x2) then
              (f_spec_l1Words x3 4).bind fun y50 =>
              some y50
            else
              some false
        else
          some false
      else
        some false
  else
    bif (decide (x0 = (7 : Int))) then
      bif (decide (x0 = (3 : Int))) then
        (f_spec_l1In x0 1 7).bind fun y51 =>
        bif y51 then
          (f_spec_l1In x1 0 5).bind fun y52 =>
          bif y52 then
            (f_spec_l1Words x3 4).bind fun y53 =>
            some y53
          else
            some false
        else
          some false
      else
        (f_spec_l1In x0 1 7).bind fun y54 =>
        bif y54 then
          (f_spec_l1In x1 0 5).bind fun y55 =>
          bif y55 then
            bif (decide (x0 = (6 : Int))) then
              (f_spec_l1Words x3 4).bind fun y56 =>
              some y56
            else
              bif (!x2) then
                (f_spec_l1Words x3 4).bind fun y57 =>
                some y57
              else
                some false
          else
            some false
        else
          some false
    else
      bif (decide (x0 = (3 : Int))) then
        (f_spec_l1In x0 1 7).bind fun y58 =>
        bif y58 then
          (f_spec_l1In x1 0 5).bind fun y59 =>
          bif y59 then
            (f_spec_l1Words x3 0).bind fun y60 =>
            some y60
          else
            some false
        else
          some false
      else
        (f_spec_l1In x0 1 7).bind fun y61 =>
        bif y61 then
          (f_spec_l1In x1 0 5).bind fun y62 =>
          bif y62 then
            bif (decide (x0 = (6 : Int))) then
              (f_spec_l1Words x3 0).bind fun y63 =>
              some y63
            else
              bif (!x2) then
                (f_spec_l1Words x3 0).bind fun y64 =>
                some y64
              else
                some false
          else
            some false
        else
          some false
noncomputable def C45 : Con := ⟨[(.B, true, [(.int .i64), (.int .i64), .bool, (.sl R1)])], [(false, [.bool])], [(.int .i64), (.int .i64), .bool, (.sl R1)], [.bool], fun (p : Int × Int × Bool × List Int) => f_spec_MsgOk p.1 p.2.1 p.2.2.1 p.2.2.2⟩
noncomputable abbrev K45 : Cons := [(97, C97), (126, C126)]
noncomputable abbrev L45 : List (Nat × Loops) := []
abbrev Q45 : List (Nat × List (Int × Nat) × Nat) := []
noncomputable abbrev X45 : Nat → Ctx := ctxOf tb K45 L45 Q45
theorem E45 : ∀ x, funRun fs X45 6 45 C45 x = C45.fn x := fun x => by kernel_rfl
theorem B45 : ConB Try.prog 45 C45 := ConB.make FS MIX TY (cons := K45) (L := L45) (ptrs := Q45) ⟨S97, S126, trivial⟩ trivial trivial rfl rfl E45
theorem S45 : ConS Try.prog 45 C45 := B45.call rfl
/-! spec.l4Copy: function 165 -/
noncomputable def f_spec_l4Copy (x0 : List Int) (x1 : Int) (x2 : List Bool) (x3 : Bool) (x4 : Int) (x5 : Bool) (x6 : Int) (x7 : List (Int × Bool)) : Option (List Int × Int × List Bool × Bool × Int × Bool × Int × (List (Int × Bool))) :=
  bif (Nat.blt (([] : List Int).length + x0.length) 17592186044416) then
  (some ((([] : List Int) ++ x0) : List Int)).bind fun z65 =>
  bif (Nat.blt (([] : List Bool).length + x2.length) 140737488355328) then
  (some ((([] : List Bool) ++ x2) : List Bool)).bind fun z66 =>
  bif (Nat.blt (([] : List (Int × Bool)).length + x7.length) 8796093022208) then
  (some ((([] : List (Int × Bool)) ++ x7) : List (Int × Bool))).bind fun z67 =>
  some (z65, x1, z66, x3, x4, x5, x6, z67)
  else none
  else none
  else none
noncomputable def C165 : Con := ⟨[(.B, true, [(.sl R1), (.int .i64), (.sl R2), .bool, (.int .i64), .bool, (.int .i64), (.sl R3)])], [(true, [(.sl R1), (.int .i64), (.sl R2), .bool, (.int .i64), .bool, (.int .i64), (.sl R3)])], [(.sl R1), (.int .i64), (.sl R2), .bool, (.int .i64), .bool, (.int .i64), (.sl R3)], [(.sl R1), (.int .i64), (.sl R2), .bool, (.int .i64), .bool, (.int .i64), (.sl R3)], fun (p : List Int × Int × List Bool × Bool × Int × Bool × Int × (List (Int × Bool))) => f_spec_l4Copy p.1 p.2.1 p.2.2.1 p.2.2.2.1 p.2.2.2.2.1 p.2.2.2.2.2.1 p.2.2.2.2.2.2.1 p.2.2.2.2.2.2.2⟩
noncomputable abbrev K165 : Cons := []
noncomputable abbrev L165 : List (Nat × Loops) := []
abbrev Q165 : List (Nat × List (Int × Nat) × Nat) := []
noncomputable abbrev X165 : Nat → Ctx := ctxOf tb K165 L165 Q165
theorem E165 : ∀ x, funRun fs X165 6 165 C165 x = C165.fn x := fun x => by kernel_rfl
theorem B165 : ConB Try.prog 165 C165 := ConB.make FS MIX TY (cons := K165) (L := L165) (ptrs := Q165) trivial trivial trivial rfl rfl E165
theorem S165 : ConS Try.prog 165 C165 := B165.call rfl
/-! spec.l4Tell: function 200 -/
noncomputable def f_spec_l4Tell (x0 : List Int) (x1 : Int) (x2 : List Bool) (x3 : Bool) (x4 : Int) (x5 : Bool) (x6 : Int) (x7 : List (Int × Bool)) (x8 : Int) (x9 : List (Int × Int × Int × Bool × List Int)) (x10 : Int) (x11 : Int) (x12 : Int) (x13 : Bool) (x14 : List Int) : Option (List Int × Int × List Bool × Bool × Int × Bool × Int × (List (Int × Bool)) × Int × (List (Int × Int × Int × Bool × List Int))) :=
  bif (Nat.blt (x9.length + ([(x10, x11, x8, x13, x14)] : List (Int × Int × Int × Bool × List Int)).length) 2513169434916) then
  (some ((x9 ++ ([(x10, x11, x8, x13, x14)] : List (Int × Int × Int × Bool × List Int))) : List (Int × Int × Int × Bool × List Int))).bind fun z68 =>
  some (x0, x1, x2, x3, x4, x5, x6, x7, x8, z68)
  else none
noncomputable def C200 : Con := ⟨[(.P [true, true, true, true, true, true, true, true, true, true], false, [(.sl R1), (.int .i64), (.sl R2), .bool, (.int .i64), .bool, (.int .i64), (.sl R3), (.int .i64), (.sl R4)]), (.B, false, [(.int .i64)]), (.M, true, [(.int .i64), (.int .i64), .bool, (.sl R1)])], [], [(.sl R1), (.int .i64), (.sl R2), .bool, (.int .i64), .bool, (.int .i64), (.sl R3), (.int .i64), (.sl R4), (.int .i64), (.int .i64), (.int .i64), .bool, (.sl R1)], [(.sl R1), (.int .i64), (.sl R2), .bool, (.int .i64), .bool, (.int .i64), (.sl R3), (.int .i64), (.sl R4)], fun (p : List Int × Int × List Bool × Bool × Int × Bool × Int × (List (Int × Bool)) × Int × (List (Int × Int × Int × Bool × List Int)) × Int × Int × Int × Bool × List Int) => f_spec_l4Tell p.1 p.2.1 p.2.2.1 p.2.2.2.1 p.2.2.2.2.1 p.2.2.2.2.2.1 p.2.2.2.2.2.2.1 p.2.2.2.2.2.2.2.1 p.2.2.2.2.2.2.2.2.1 p.2.2.2.2.2.2.2.2.2.1 p.2.2.2.2.2.2.2.2.2.2.1 p.2.2.2.2.2.2.2.2.2.2.2.1 p.2.2.2.2.2.2.2.2.2.2.2.2.1 p.2.2.2.2.2.2.2.2.2.2.2.2.2.1 p.2.2.2.2.2.2.2.2.2.2.2.2.2.2⟩
noncomputable abbrev K200 : Cons := []
noncomputable abbrev L200 : List (Nat × Loops) := []
abbrev Q200 : List (Nat × List (Int × Nat) × Nat) := []
noncomputable abbrev X200 : Nat → Ctx := ctxOf tb K200 L200 Q200
theorem E200 : ∀ x, funG fs X200 6 200 C200 x = C200.fn x := fun x => by kernel_rfl
theorem B200 : ConG Try.prog 200 C200 := ConG.make FS MIX TY (cons := K200) (L := L200) (ptrs := Q200) trivial trivial trivial rfl (by kernel_rfl) E200
theorem S200 : ConS Try.prog 200 C200 := B200.call (by kernel_rfl)
/-! spec.l4Give: function 199 -/
noncomputable def f_spec_l4Give (x0 : List Int) (x1 : Int) (x2 : List Bool) (x3 : Bool) (x4 : Int) (x5 : Bool) (x6 : Int) (x7 : List (Int × Bool)) (x8 : Int) (x9 : List (Int × Int × Int × Bool × List Int)) : Option (List Int × Int × List Bool × Bool × Int × Bool × Int × (List (Int × Bool)) × Int × (List (Int × Int × Int × Bool × List Int))) :=
  bif (Nat.blt (([] : List Int).length + x0.length) 17592186044416) then
  (some ((([] : List Int) ++ x0) : List Int)).bind fun z69 =>
  (f_spec_l4Tell x0 x1 x2 x3 x4 x5 x6 x7 x8 x9 x4 3 0 x5 z69).bind fun y70 =>
  bif ((decide ((0 : Int) ≤ x4)) && (decide (x4 < (y70.2.2.1.length : Int)))) then
  (some ((y70.2.2.1.set x4.toNat (!x5)) : List Bool)).bind fun z71 =>
  bif x5 then
    some (y70.1, x4, z71, false, 0, false, y70.2.2.2.2.2.2.1, y70.2.2.2.2.2.2.2.1, y70.2.2.2.2.2.2.2.2.1, y70.2.2.2.2.2.2.2.2.2)
  else
    some (y70.1, y70.2.1, z71, false, 0, false, y70.2.2.2.2.2.2.1, y70.2.2.2.2.2.2.2.1, y70.2.2.2.2.2.2.2.2.1, y70.2.2.2.2.2.2.2.2.2)
  else none
  else none
noncomputable def C199 : Con := ⟨[(.P [true, true, true, true, true, true, true, true, true, true], false, [(.sl R1), (.int .i64), (.sl R2), .bool, (.int .i64), .bool, (.int .i64), (.sl R3), (.int .i64), (.sl R4)])], [], [(.sl R1), (.int .i64), (.sl R2), .bool, (.int .i64), .bool, (.int .i64), (.sl R3), (.int .i64), (.sl R4)], [(.sl R1), (.int .i64), (.sl R2), .bool, (.int .i64), .bool, (.int .i64), (.sl R3), (.int .i64), (.sl R4)], fun (p : List Int × Int × List Bool × Bool × Int × Bool × Int × (List (Int × Bool)) × Int × (List (Int × Int × Int × Bool × List Int))) => f_spec_l4Give p.1 p.2.1 p.2.2.1 p.2.2.2.1 p.2.2.2.2.1 p.2.2.2.2.2.1 p.2.2.2.2.2.2.1 p.2.2.2.2.2.2.2.1 p.2.2.2.2.2.2.2.2.1 p.2.2.2.2.2.2.2.2.2⟩
noncomputable abbrev K199 : Cons := [(200, C200)]
noncomputable abbrev L199 : List (Nat × Loops) := []
abbrev Q199 : List (Nat × List (Int × Nat) × Nat) := []
noncomputable abbrev X199 : Nat → Ctx := ctxOf tb K199 L199 Q199
theorem E199 : ∀ x, funG fs X199 6 199 C199 x = C199.fn x := fun x => by kernel_rfl
theorem B199 : ConG Try.prog 199 C199 := ConG.make FS MIX TY (cons := K199) (L := L199) (ptrs := Q199) ⟨S200, trivial⟩ trivial trivial rfl (by kernel_rfl) E199
theorem S199 : ConS Try.prog 199 C199 := B199.call (by kernel_rfl)
/-! spec.l4Hear: function 166 -/
noncomputable def f_spec_l4Hear (x0 : List Int) (x1 : Int) (x2 : List Bool) (x3 : Bool) (x4 : Int) (x5 : Bool) (x6 : Int) (x7 : List (Int × Bool)) (x8 : Int) (x9 : List (Int × Int × Int × Bool × List Int)) (x10 : Int) (x11 : Int) (x12 : Int) (x13 : Bool) (x14 : List Int) : Option (Bool × List Int × Int × List Bool × Bool × Int × Bool × Int × (List (Int × Bool)) × Int × (List (Int × Int × Int × Bool × List Int))) :=
  bif (decide (x11 = (1 : Int))) then
    bif (decide ((x7.length : Int) = (12 : Int))) then
      some (false, x0, x1, x2, x3, x4, x5, x6, x7, x8, x9)
    else
      bif (Nat.blt (x7.length + ([(x10, (decide (x11 = (2 : Int))))] : List (Int × Bool)).length) 8796093022208) then
      (some ((x7 ++ ([(x10, (decide (x11 = (2 : Int))))] : List (Int × Bool))) : List (Int × Bool))).bind fun z72 =>
      some (true, x0, x1, x2, x3, x4, x5, x6, z72, x8, x9)
      else none
  else
    bif (decide (x11 = (2 : Int))) then
      bif (decide ((x7.length : Int) = (12 : Int))) then
        some (false, x0, x1, x2, x3, x4, x5, x6, x7, x8, x9)
      else
        bif (Nat.blt (x7.length + ([(x10, (decide (x11 = (2 : Int))))] : List (Int × Bool)).length) 8796093022208) then
        (some ((x7 ++ ([(x10, (decide (x11 = (2 : Int))))] : List (Int × Bool))) : List (Int × Bool))).bind fun z73 =>
        some (true, x0, x1, x2, x3, x4, x5, x6, z73, x8, x9)
        else none
    else
      bif (decide (x11 = (5 : Int))) then
        bif (!x3) then
          some (false, x0, x1, x2, x3, x4, x5, x6, x7, x8, x9)
        else
          bif (decide (x6 = (0 : Int))) then
            some (false, x0, x1, x2, x3, x4, x5, x6, x7, x8, x9)
          else
            bif (decide ((IntKind.wrap .i64 (x6 - (1 : Int))) = (0 : Int))) then
              (f_spec_l4Give x0 x1 x2 x3 x4 x5 (IntKind.wrap .i64 (x6 - (1 : Int))) x7 x8 x9).bind fun y74 =>
              some (true, y74.1, y74.2.1, y74.2.2.1, y74.2.2.2.1, y74.2.2.2.2.1, y74.2.2.2.2.2.1, y74.2.2.2.2.2.2.1, y74.2.2.2.2.2.2.2.1, y74.2.2.2.2.2.2.2.2.1, y74.2.2.2.2.2.2.2.2.2)
            else
              some (true, x0, x1, x2, x3, x4, x5, (IntKind.wrap .i64 (x6 - (1 : Int))), x7, x8, x9)
      else
        bif (decide (x11 = (7 : Int))) then
          bif (!x3) then
            some (false, x0, x1, x2, x3, x4, x5, x6, x7, x8, x9)
          else
            bif (decide ((0 : Int) < x6)) then
              some (false, x0, x1, x2, x3, x4, x5, x6, x7, x8, x9)
            else
              bif (!(decide (x10 = x1))) then
                some (false, x0, x1, x2, x3, x4, x5, x6, x7, x8, x9)
              else
                bif (Nat.blt (([] : List Int).length + x14.length) 17592186044416) then
                (some ((([] : List Int) ++ x14) : List Int)).bind fun z75 =>
                bif ((decide ((0 : Int) ≤ x10)) && (decide (x10 < (x2.length : Int)))) then
                (some ((x2.set x10.toNat (!x5)) : List Bool)).bind fun z76 =>
                (f_spec_l4Give z75 (-1) z76 x3 x4 x5 x6 x7 x8 x9).bind fun y77 =>
                some (true, y77.1, y77.2.1, y77.2.2.1, y77.2.2.2.1, y77.2.2.2.2.1, y77.2.2.2.2.2.1, y77.2.2.2.2.2.2.1, y77.2.2.2.2.2.2.2.1, y77.2.2.2.2.2.2.2.2.1, y77.2.2.2.2.2.2.2.2.2)
                else none
                else none
        else
          some (false, x0, x1, x2, x3, x4, x5, x6, x7, x8, x9)
noncomputable def C166 : Con := ⟨[(.P [true, true, true, true, true, true, true, true, true, true], false, [(.sl R1), (.int .i64), (.sl R2), .bool, (.int .i64), .bool, (.int .i64), (.sl R3), (.int .i64), (.sl R4)]), (.B, false, [(.int .i64)]), (.B, true, [(.int .i64), (.int .i64), .bool, (.sl R1)])], [(false, [.bool])], [(.sl R1), (.int .i64), (.sl R2), .bool, (.int .i64), .bool, (.int .i64), (.sl R3), (.int .i64), (.sl R4), (.int .i64), (.int .i64), (.int .i64), .bool, (.sl R1)], [.bool, (.sl R1), (.int .i64), (.sl R2), .bool, (.int .i64), .bool, (.int .i64), (.sl R3), (.int .i64), (.sl R4)], fun (p : List Int × Int × List Bool × Bool × Int × Bool × Int × (List (Int × Bool)) × Int × (List (Int × Int × Int × Bool × List Int)) × Int × Int × Int × Bool × List Int) => f_spec_l4Hear p.1 p.2.1 p.2.2.1 p.2.2.2.1 p.2.2.2.2.1 p.2.2.2.2.2.1 p.2.2.2.2.2.2.1 p.2.2.2.2.2.2.2.1 p.2.2.2.2.2.2.2.2.1 p.2.2.2.2.2.2.2.2.2.1 p.2.2.2.2.2.2.2.2.2.2.1 p.2.2.2.2.2.2.2.2.2.2.2.1 p.2.2.2.2.2.2.2.2.2.2.2.2.1 p.2.2.2.2.2.2.2.2.2.2.2.2.2.1 p.2.2.2.2.2.2.2.2.2.2.2.2.2.2⟩
noncomputable abbrev K166 : Cons := [(199, C199)]
noncomputable abbrev L166 : List (Nat × Loops) := []
abbrev Q166 : List (Nat × List (Int × Nat) × Nat) := []
noncomputable abbrev X166 : Nat → Ctx := ctxOf tb K166 L166 Q166
theorem E166 : ∀ x, funG fs X166 6 166 C166 x = C166.fn x := fun x => by kernel_rfl
theorem B166 : ConG Try.prog 166 C166 := ConG.make FS MIX TY (cons := K166) (L := L166) (ptrs := Q166) ⟨S199, trivial⟩ trivial trivial rfl (by kernel_rfl) E166
theorem S166 : ConS Try.prog 166 C166 := B166.call (by kernel_rfl)
/-! spec.l4Next: function 167 -/
noncomputable def f_spec_l4Next.l0 : Nat → Int → Int → Bool → Int → Bool → Int → Int → (List Int) → (List Bool) → (List (Int × Bool)) → (List (Int × Int × Int × Bool × List Int)) → Option (Int × Bool × Int × Bool × Int × Int × List Int × List Bool × (List (Int × Bool)) × (List (Int × Int × Int × Bool × List Int)))
  | 0, _, _, _, _, _, _, _, _, _, _, _ => none
  | n + 1, p80, p81, p82, p83, p84, p85, p86, p87, p88, p89, p90 =>
    bif (decide (p80 < (p88.length : Int))) then
      bif p84 then
        bif ((decide ((0 : Int) ≤ p80)) && (decide (p80 < (p88.length : Int)))) then
        bif (p88.getD p80.toNat false) then
          bif (!(decide (p80 = p83))) then
            (f_spec_l4Tell p87 p81 p88 p82 p83 p84 p85 p89 p86 p90 p80 4 0 false []).bind fun y91 =>
            bif ((decide ((0 : Int) ≤ p80)) && (decide (p80 < (y91.2.2.1.length : Int)))) then
            (some ((y91.2.2.1.set p80.toNat false) : List Bool)).bind fun z92 =>
            f_spec_l4Next.l0 n (IntKind.wrap .i64 (p80 + (1 : Int))) y91.2.1 y91.2.2.2.1 y91.2.2.2.2.1 y91.2.2.2.2.2.1 (IntKind.wrap .i64 (y91.2.2.2.2.2.2.1 + (1 : Int))) y91.2.2.2.2.2.2.2.2.1 y91.1 z92 y91.2.2.2.2.2.2.2.1 y91.2.2.2.2.2.2.2.2.2
            else none
          else
            f_spec_l4Next.l0 n (IntKind.wrap .i64 (p80 + (1 : Int))) p81 p82 p83 p84 p85 p86 p87 p88 p89 p90
        else
          f_spec_l4Next.l0 n (IntKind.wrap .i64 (p80 + (1 : Int))) p81 p82 p83 p84 p85 p86 p87 p88 p89 p90
        else none
      else
        some (p81, p82, p83, p84, p85, p86, p87, p88, p89, p90)
    else
      some (p81, p82, p83, p84, p85, p86, p87, p88, p89, p90)
noncomputable def f_spec_l4Next (x0 : List Int) (x1 : Int) (x2 : List Bool) (x3 : Bool) (x4 : Int) (x5 : Bool) (x6 : Int) (x7 : List (Int × Bool)) (x8 : Int) (x9 : List (Int × Int × Int × Bool × List Int)) : Option (List Int × Int × List Bool × Bool × Int × Bool × Int × (List (Int × Bool)) × Int × (List (Int × Int × Int × Bool × List Int))) :=
  bif (decide ((0 : Int) < (x7.length : Int))) then
  bif (decide ((1 : Int) ≤ (x7.length : Int))) then
  bif (Nat.blt (([] : List (Int × Bool)).length + ((x7.drop 1).take ((x7.length : Int) - (1 : Int)).toNat).length) 8796093022208) then
  (some ((([] : List (Int × Bool)) ++ ((x7.drop 1).take ((x7.length : Int) - (1 : Int)).toNat)) : List (Int × Bool))).bind fun z78 =>
  bif (decide ((0 : Int) ≤ x1)) then
    (f_spec_l4Tell x0 x1 x2 true ((x7.getD 0 (0, false)).1) ((x7.getD 0 (0, false)).2) x6 z78 x8 x9 x1 6 0 ((x7.getD 0 (0, false)).2) []).bind fun y79 =>
    some (y79.1, y79.2.1, y79.2.2.1, y79.2.2.2.1, y79.2.2.2.2.1, y79.2.2.2.2.2.1, y79.2.2.2.2.2.2.1, y79.2.2.2.2.2.2.2.1, y79.2.2.2.2.2.2.2.2.1, y79.2.2.2.2.2.2.2.2.2)
  else
    (f_spec_l4Next.l0 N 0 x1 true ((x7.getD 0 (0, false)).1) ((x7.getD 0 (0, false)).2) 0 x8 x0 x2 z78 x9).bind fun r93 =>
    bif (decide (r93.2.2.2.2.1 = (0 : Int))) then
      (f_spec_l4Give r93.2.2.2.2.2.2.1 r93.1 r93.2.2.2.2.2.2.2.1 r93.2.1 r93.2.2.1 r93.2.2.2.1 r93.2.2.2.2.1 r93.2.2.2.2.2.2.2.2.1 r93.2.2.2.2.2.1 r93.2.2.2.2.2.2.2.2.2).bind fun y94 =>
      some (y94.1, y94.2.1, y94.2.2.1, y94.2.2.2.1, y94.2.2.2.2.1, y94.2.2.2.2.2.1, y94.2.2.2.2.2.2.1, y94.2.2.2.2.2.2.2.1, y94.2.2.2.2.2.2.2.2.1, y94.2.2.2.2.2.2.2.2.2)
    else
      some (r93.2.2.2.2.2.2.1, r93.1, r93.2.2.2.2.2.2.2.1, r93.2.1, r93.2.2.1, r93.2.2.2.1, r93.2.2.2.2.1, r93.2.2.2.2.2.2.2.2.1, r93.2.2.2.2.2.1, r93.2.2.2.2.2.2.2.2.2)
  else none
  else none
  else none
noncomputable def C167 : Con := ⟨[(.P [true, true, true, true, true, true, true, true, true, true], false, [(.sl R1), (.int .i64), (.sl R2), .bool, (.int .i64), .bool, (.int .i64), (.sl R3), (.int .i64), (.sl R4)])], [], [(.sl R1), (.int .i64), (.sl R2), .bool, (.int .i64), .bool, (.int .i64), (.sl R3), (.int .i64), (.sl R4)], [(.sl R1), (.int .i64), (.sl R2), .bool, (.int .i64), .bool, (.int .i64), (.sl R3), (.int .i64), (.sl R4)], fun (p : List Int × Int × List Bool × Bool × Int × Bool × Int × (List (Int × Bool)) × Int × (List (Int × Int × Int × Bool × List Int))) => f_spec_l4Next p.1 p.2.1 p.2.2.1 p.2.2.2.1 p.2.2.2.2.1 p.2.2.2.2.2.1 p.2.2.2.2.2.2.1 p.2.2.2.2.2.2.2.1 p.2.2.2.2.2.2.2.2.1 p.2.2.2.2.2.2.2.2.2⟩
noncomputable def f_spec_l4Next.l0.c : LoopCon := ⟨1000, 6, [0, 2], ⟨[(0, .ptr 500 0), (2, .int .i64 0)], [(500, .box [.ref 1000 [] none, .int .i64 0, .ref 1001 [] none, .bool false, .int .i64 0, .bool false, .int .i64 0, .ref 1002 [] none, .int .i64 0, .ref 1003 [] none]), (1000, .row R1 []), (1001, .row R2 []), (1002, .row R3 []), (1003, .row R4 [])], 1004⟩, [(.int .i64), (.int .i64), .bool, (.int .i64), .bool, (.int .i64), (.int .i64), (.sl R1), (.sl R2), (.sl R3), (.sl R4)], [⟨.exit 0, [0], ⟨[(0, .ptr 500 0)], [(500, .box [.ref 1000 [] none, .int .i64 0, .ref 1001 [] none, .bool false, .int .i64 0, .bool false, .int .i64 0, .ref 1002 [] none, .int .i64 0, .ref 1003 [] none]), (1000, .row R1 []), (1001, .row R2 []), (1002, .row R3 []), (1003, .row R4 [])], 1004⟩, [(.int .i64), .bool, (.int .i64), .bool, (.int .i64), (.int .i64), (.sl R1), (.sl R2), (.sl R3), (.sl R4)]⟩], fun (p : Int × Int × Bool × Int × Bool × Int × Int × List Int × List Bool × (List (Int × Bool)) × (List (Int × Int × Int × Bool × List Int))) => f_spec_l4Next.l0 N p.1 p.2.1 p.2.2.1 p.2.2.2.1 p.2.2.2.2.1 p.2.2.2.2.2.1 p.2.2.2.2.2.2.1 p.2.2.2.2.2.2.2.1 p.2.2.2.2.2.2.2.2.1 p.2.2.2.2.2.2.2.2.2.1 p.2.2.2.2.2.2.2.2.2.2⟩
noncomputable abbrev K167 : Cons := [(199, C199), (200, C200)]
noncomputable abbrev L167 : List (Nat × Loops) := [(167, [(7, f_spec_l4Next.l0.c)])]
abbrev Q167 : List (Nat × List (Int × Nat) × Nat) := []
noncomputable abbrev X167 : Nat → Ctx := ctxOf tb K167 L167 Q167
theorem f_spec_l4Next.l0.ok : ∀ n p, (fun (p : Int × Int × Bool × Int × Bool × Int × Int × List Int × List Bool × (List (Int × Bool)) × (List (Int × Int × Int × Bool × List Int))) => f_spec_l4Next.l0 n p.1 p.2.1 p.2.2.1 p.2.2.2.1 p.2.2.2.2.1 p.2.2.2.2.2.1 p.2.2.2.2.2.2.1 p.2.2.2.2.2.2.2.1 p.2.2.2.2.2.2.2.2.1 p.2.2.2.2.2.2.2.2.2.1 p.2.2.2.2.2.2.2.2.2.2) p = iterD (roundOf fs X167 6 167 7 false f_spec_l4Next.l0.c) n p :=
  iter_of (l := fun n => fun (p : Int × Int × Bool × Int × Bool × Int × Int × List Int × List Bool × (List (Int × Bool)) × (List (Int × Int × Int × Bool × List Int))) => f_spec_l4Next.l0 n p.1 p.2.1 p.2.2.1 p.2.2.2.1 p.2.2.2.2.1 p.2.2.2.2.2.1 p.2.2.2.2.2.2.1 p.2.2.2.2.2.2.2.1 p.2.2.2.2.2.2.2.2.1 p.2.2.2.2.2.2.2.2.2.1 p.2.2.2.2.2.2.2.2.2.2) (fun _ => rfl) (fun n p => by kernel_rfl)
theorem E167 : ∀ x, funG fs X167 6 167 C167 x = C167.fn x := fun x => by kernel_rfl
theorem B167 : ConG Try.prog 167 C167 := ConG.make FS MIX TY (cons := K167) (L := L167) (ptrs := Q167) ⟨S199, S200, trivial⟩ trivial ⟨⟨⟨N, fun p => f_spec_l4Next.l0.ok N p⟩, trivial⟩, trivial⟩ rfl (by kernel_rfl) E167
theorem S167 : ConS Try.prog 167 C167 := B167.call (by kernel_rfl)
/-! spec.HomeHear: function 87 -/
noncomputable def f_spec_HomeHear.l0 : Nat → Int → Bool → Int → Bool → Int → Int → Bool → Int → Bool → Int → Int → (List Int) → (List Bool) → (List (Int × Bool)) → (List Int) → (List Bool) → (List (Int × Bool)) → (List (Int × Int × Int × Bool × List Int)) → Option (Int × Bool × Int × Bool × Int × Int × Bool × Int × Bool × Int × Int × List Int × List Bool × (List (Int × Bool)) × List Int × List Bool × (List (Int × Bool)) × (List (Int × Int × Int × Bool × List Int)))
  | 0, _, _, _, _, _, _, _, _, _, _, _, _, _, _, _, _, _, _ => none
  | n + 1, p105, p106, p107, p108, p109, p110, p111, p112, p113, p114, p115, p116, p117, p118, p119, p120, p121, p122 =>
    bif (!p111) then
      bif (decide ((0 : Int) < (p121.length : Int))) then
        (f_spec_l4Next p119 p110 p120 p111 p112 p113 p114 p121 p115 p122).bind fun y123 =>
        f_spec_HomeHear.l0 n p105 p106 p107 p108 p109 y123.2.1 y123.2.2.2.1 y123.2.2.2.2.1 y123.2.2.2.2.2.1 y123.2.2.2.2.2.2.1 y123.2.2.2.2.2.2.2.2.1 p116 p117 p118 y123.1 y123.2.2.1 y123.2.2.2.2.2.2.2.1 y123.2.2.2.2.2.2.2.2.2
      else
        some (p105, p106, p107, p108, p109, p110, p111, p112, p113, p114, p115, p116, p117, p118, p119, p120, p121, p122)
    else
      some (p105, p106, p107, p108, p109, p110, p111, p112, p113, p114, p115, p116, p117, p118, p119, p120, p121, p122)
noncomputable def f_spec_HomeHear (x0 : List Int) (x1 : Int) (x2 : List Bool) (x3 : Bool) (x4 : Int) (x5 : Bool) (x6 : Int) (x7 : List (Int × Bool)) (x8 : Int) (x9 : Int) (x10 : Int) (x11 : Int) (x12 : Int) (x13 : Bool) (x14 : List Int) : Option (List Int × Int × List Bool × Bool × Int × Bool × Int × (List (Int × Bool)) × (List (Int × Int × Int × Bool × List Int))) :=
  (f_spec_HomeOk x0 x1 x2 x3 x4 x5 x6 x7 x8).bind fun y95 =>
  bif (!y95) then
    (f_spec_l4Copy x0 x1 x2 x3 x4 x5 x6 x7).bind fun y96 =>
    some (y96.1, y96.2.1, y96.2.2.1, y96.2.2.2.1, y96.2.2.2.2.1, y96.2.2.2.2.2.1, y96.2.2.2.2.2.2.1, y96.2.2.2.2.2.2.2, ([] : List (Int × Int × Int × Bool × List Int)))
  else
    (f_spec_MsgOk x11 x12 x13 x14).bind fun y97 =>
    bif (!y97) then
      (f_spec_l4Copy x0 x1 x2 x3 x4 x5 x6 x7).bind fun y98 =>
      some (y98.1, y98.2.1, y98.2.2.1, y98.2.2.2.1, y98.2.2.2.2.1, y98.2.2.2.2.2.1, y98.2.2.2.2.2.2.1, y98.2.2.2.2.2.2.2, ([] : List (Int × Int × Int × Bool × List Int)))
    else
      (f_spec_l1In x10 0 (IntKind.wrap .i64 (x8 - (1 : Int)))).bind fun y99 =>
      bif (!y99) then
        (f_spec_l4Copy x0 x1 x2 x3 x4 x5 x6 x7).bind fun y100 =>
        some (y100.1, y100.2.1, y100.2.2.1, y100.2.2.2.1, y100.2.2.2.2.1, y100.2.2.2.2.2.1, y100.2.2.2.2.2.2.1, y100.2.2.2.2.2.2.2, ([] : List (Int × Int × Int × Bool × List Int)))
      else
        bif (!(decide (x12 = x9))) then
          (f_spec_l4Copy x0 x1 x2 x3 x4 x5 x6 x7).bind fun y101 =>
          some (y101.1, y101.2.1, y101.2.2.1, y101.2.2.2.1, y101.2.2.2.2.1, y101.2.2.2.2.2.1, y101.2.2.2.2.2.2.1, y101.2.2.2.2.2.2.2, ([] : List (Int × Int × Int × Bool × List Int)))
        else
          (f_spec_l4Copy x0 x1 x2 x3 x4 x5 x6 x7).bind fun y102 =>
          (f_spec_l4Hear y102.1 y102.2.1 y102.2.2.1 y102.2.2.2.1 y102.2.2.2.2.1 y102.2.2.2.2.2.1 y102.2.2.2.2.2.2.1 y102.2.2.2.2.2.2.2 x9 [] x10 x11 x12 x13 x14).bind fun y103 =>
          bif (!y103.1) then
            (f_spec_l4Copy x0 x1 x2 x3 x4 x5 x6 x7).bind fun y104 =>
            some (y104.1, y104.2.1, y104.2.2.1, y104.2.2.2.1, y104.2.2.2.2.1, y104.2.2.2.2.2.1, y104.2.2.2.2.2.2.1, y104.2.2.2.2.2.2.2, ([] : List (Int × Int × Int × Bool × List Int)))
          else
            (f_spec_HomeHear.l0 N 0 false 0 false 0 y103.2.2.1 y103.2.2.2.2.1 y103.2.2.2.2.2.1 y103.2.2.2.2.2.2.1 y103.2.2.2.2.2.2.2.1 y103.2.2.2.2.2.2.2.2.2.1 ([] : List Int) ([] : List Bool) ([] : List (Int × Bool)) y103.2.1 y103.2.2.2.1 y103.2.2.2.2.2.2.2.2.1 y103.2.2.2.2.2.2.2.2.2.2).bind fun r124 =>
            some (r124.2.2.2.2.2.2.2.2.2.2.2.2.2.2.1, r124.2.2.2.2.2.1, r124.2.2.2.2.2.2.2.2.2.2.2.2.2.2.2.1, r124.2.2.2.2.2.2.1, r124.2.2.2.2.2.2.2.1, r124.2.2.2.2.2.2.2.2.1, r124.2.2.2.2.2.2.2.2.2.1, r124.2.2.2.2.2.2.2.2.2.2.2.2.2.2.2.2.1, r124.2.2.2.2.2.2.2.2.2.2.2.2.2.2.2.2.2)
noncomputable def C87 : Con := ⟨[(.B, true, [(.sl R1), (.int .i64), (.sl R2), .bool, (.int .i64), .bool, (.int .i64), (.sl R3)]), (.B, false, [(.int .i64)]), (.B, false, [(.int .i64)]), (.B, false, [(.int .i64)]), (.B, true, [(.int .i64), (.int .i64), .bool, (.sl R1)])], [(true, [(.sl R1), (.int .i64), (.sl R2), .bool, (.int .i64), .bool, (.int .i64), (.sl R3)]), (false, [(.sl R4)])], [(.sl R1), (.int .i64), (.sl R2), .bool, (.int .i64), .bool, (.int .i64), (.sl R3), (.int .i64), (.int .i64), (.int .i64), (.int .i64), (.int .i64), .bool, (.sl R1)], [(.sl R1), (.int .i64), (.sl R2), .bool, (.int .i64), .bool, (.int .i64), (.sl R3), (.sl R4)], fun (p : List Int × Int × List Bool × Bool × Int × Bool × Int × (List (Int × Bool)) × Int × Int × Int × Int × Int × Bool × List Int) => f_spec_HomeHear p.1 p.2.1 p.2.2.1 p.2.2.2.1 p.2.2.2.2.1 p.2.2.2.2.2.1 p.2.2.2.2.2.2.1 p.2.2.2.2.2.2.2.1 p.2.2.2.2.2.2.2.2.1 p.2.2.2.2.2.2.2.2.2.1 p.2.2.2.2.2.2.2.2.2.2.1 p.2.2.2.2.2.2.2.2.2.2.2.1 p.2.2.2.2.2.2.2.2.2.2.2.2.1 p.2.2.2.2.2.2.2.2.2.2.2.2.2.1 p.2.2.2.2.2.2.2.2.2.2.2.2.2.2⟩
noncomputable def f_spec_HomeHear.l0.c : LoopCon := ⟨1000, 6, [10, 11, 12], ⟨[(10, .ptr 1000 0), (11, .nil (some R4)), (12, .ptr 1001 0)], [(1000, .box [.ref 1002 [] none, .int .i64 0, .ref 1003 [] none, .bool false, .int .i64 0, .bool false, .int .i64 0, .ref 1004 [] none]), (1001, .box [.ref 1005 [] none, .int .i64 0, .ref 1006 [] none, .bool false, .int .i64 0, .bool false, .int .i64 0, .ref 1007 [] none, .int .i64 0, .ref 1008 [] none]), (1002, .row R1 []), (1003, .row R2 []), (1004, .row R3 []), (1005, .row R1 []), (1006, .row R2 []), (1007, .row R3 []), (1008, .row R4 [])], 1009⟩, [(.int .i64), .bool, (.int .i64), .bool, (.int .i64), (.int .i64), .bool, (.int .i64), .bool, (.int .i64), (.int .i64), (.sl R1), (.sl R2), (.sl R3), (.sl R1), (.sl R2), (.sl R3), (.sl R4)], [⟨.exit 0, [10, 11, 12], ⟨[(10, .ptr 1000 0), (11, .nil (some R4)), (12, .ptr 1001 0)], [(1000, .box [.ref 1002 [] none, .int .i64 0, .ref 1003 [] none, .bool false, .int .i64 0, .bool false, .int .i64 0, .ref 1004 [] none]), (1001, .box [.ref 1005 [] none, .int .i64 0, .ref 1006 [] none, .bool false, .int .i64 0, .bool false, .int .i64 0, .ref 1007 [] none, .int .i64 0, .ref 1008 [] none]), (1002, .row R1 []), (1003, .row R2 []), (1004, .row R3 []), (1005, .row R1 []), (1006, .row R2 []), (1007, .row R3 []), (1008, .row R4 [])], 1009⟩, [(.int .i64), .bool, (.int .i64), .bool, (.int .i64), (.int .i64), .bool, (.int .i64), .bool, (.int .i64), (.int .i64), (.sl R1), (.sl R2), (.sl R3), (.sl R1), (.sl R2), (.sl R3), (.sl R4)]⟩], fun (p : Int × Bool × Int × Bool × Int × Int × Bool × Int × Bool × Int × Int × List Int × List Bool × (List (Int × Bool)) × List Int × List Bool × (List (Int × Bool)) × (List (Int × Int × Int × Bool × List Int))) => f_spec_HomeHear.l0 N p.1 p.2.1 p.2.2.1 p.2.2.2.1 p.2.2.2.2.1 p.2.2.2.2.2.1 p.2.2.2.2.2.2.1 p.2.2.2.2.2.2.2.1 p.2.2.2.2.2.2.2.2.1 p.2.2.2.2.2.2.2.2.2.1 p.2.2.2.2.2.2.2.2.2.2.1 p.2.2.2.2.2.2.2.2.2.2.2.1 p.2.2.2.2.2.2.2.2.2.2.2.2.1 p.2.2.2.2.2.2.2.2.2.2.2.2.2.1 p.2.2.2.2.2.2.2.2.2.2.2.2.2.2.1 p.2.2.2.2.2.2.2.2.2.2.2.2.2.2.2.1 p.2.2.2.2.2.2.2.2.2.2.2.2.2.2.2.2.1 p.2.2.2.2.2.2.2.2.2.2.2.2.2.2.2.2.2⟩
noncomputable abbrev K87 : Cons := [(45, C45), (90, C90), (97, C97), (165, C165), (166, C166), (167, C167)]
noncomputable abbrev L87 : List (Nat × Loops) := [(87, [(6, f_spec_HomeHear.l0.c)])]
abbrev Q87 : List (Nat × List (Int × Nat) × Nat) := []
noncomputable abbrev X87 : Nat → Ctx := ctxOf tb K87 L87 Q87
theorem f_spec_HomeHear.l0.ok : ∀ n p, (fun (p : Int × Bool × Int × Bool × Int × Int × Bool × Int × Bool × Int × Int × List Int × List Bool × (List (Int × Bool)) × List Int × List Bool × (List (Int × Bool)) × (List (Int × Int × Int × Bool × List Int))) => f_spec_HomeHear.l0 n p.1 p.2.1 p.2.2.1 p.2.2.2.1 p.2.2.2.2.1 p.2.2.2.2.2.1 p.2.2.2.2.2.2.1 p.2.2.2.2.2.2.2.1 p.2.2.2.2.2.2.2.2.1 p.2.2.2.2.2.2.2.2.2.1 p.2.2.2.2.2.2.2.2.2.2.1 p.2.2.2.2.2.2.2.2.2.2.2.1 p.2.2.2.2.2.2.2.2.2.2.2.2.1 p.2.2.2.2.2.2.2.2.2.2.2.2.2.1 p.2.2.2.2.2.2.2.2.2.2.2.2.2.2.1 p.2.2.2.2.2.2.2.2.2.2.2.2.2.2.2.1 p.2.2.2.2.2.2.2.2.2.2.2.2.2.2.2.2.1 p.2.2.2.2.2.2.2.2.2.2.2.2.2.2.2.2.2) p = iterD (roundOf fs X87 6 87 6 false f_spec_HomeHear.l0.c) n p :=
  iter_of (l := fun n => fun (p : Int × Bool × Int × Bool × Int × Int × Bool × Int × Bool × Int × Int × List Int × List Bool × (List (Int × Bool)) × List Int × List Bool × (List (Int × Bool)) × (List (Int × Int × Int × Bool × List Int))) => f_spec_HomeHear.l0 n p.1 p.2.1 p.2.2.1 p.2.2.2.1 p.2.2.2.2.1 p.2.2.2.2.2.1 p.2.2.2.2.2.2.1 p.2.2.2.2.2.2.2.1 p.2.2.2.2.2.2.2.2.1 p.2.2.2.2.2.2.2.2.2.1 p.2.2.2.2.2.2.2.2.2.2.1 p.2.2.2.2.2.2.2.2.2.2.2.1 p.2.2.2.2.2.2.2.2.2.2.2.2.1 p.2.2.2.2.2.2.2.2.2.2.2.2.2.1 p.2.2.2.2.2.2.2.2.2.2.2.2.2.2.1 p.2.2.2.2.2.2.2.2.2.2.2.2.2.2.2.1 p.2.2.2.2.2.2.2.2.2.2.2.2.2.2.2.2.1 p.2.2.2.2.2.2.2.2.2.2.2.2.2.2.2.2.2) (fun _ => rfl) (fun n p => by kernel_rfl)
theorem E87 : ∀ x, funRun fs X87 6 87 C87 x = C87.fn x := fun x => by kernel_rfl
theorem B87 : ConB Try.prog 87 C87 := ConB.make FS MIX TY (cons := K87) (L := L87) (ptrs := Q87) ⟨S45, S90, S97, S165, S166, S167, trivial⟩ trivial ⟨⟨⟨N, fun p => f_spec_HomeHear.l0.ok N p⟩, trivial⟩, trivial⟩ rfl rfl E87
theorem S87 : ConS Try.prog 87 C87 := B87.call rfl
/-! spec.l4DrawRight: function 196 -/
noncomputable def f_spec_l4DrawRight.l0 : Nat → Int → Int → (List Int) → Int → Int → Int → Bool → Int → Bool → Int → Int → Bool → Int → Bool → Int → (List Int) → (List Bool) → (List (Int × Bool)) → (List Int) → (List Bool) → (List (Int × Bool)) → Option (List Int × Int × Int × Int × Bool × Int × Bool × Int × Int × Bool × Int × Bool × Int × List Int × List Bool × (List (Int × Bool)) × List Int × List Bool × (List (Int × Bool)))
  | 0, _, _, _, _, _, _, _, _, _, _, _, _, _, _, _, _, _, _, _, _, _ => none
  | n + 1, p127, p128, p129, p130, p131, p132, p133, p134, p135, p136, p137, p138, p139, p140, p141, p142, p143, p144, p145, p146, p147 =>
    bif (decide (p128 < p127)) then
      (f_spec_l1PickInt p129 p130 p131 ([1, 2, 2, 5, 7] : List Int)).bind fun y148 =>
      bif (decide (y148.1 = (7 : Int))) then
        (f_spec_l1DrawList p129 y148.2.1 y148.2.2).bind fun y149 =>
        (f_spec_l1Below p129 y149.2.1 y149.2.2 3).bind fun y150 =>
        bif (decide (y148.1 = (7 : Int))) then
          bif (decide ((0 : Int) ≤ p137)) then
            (f_spec_HomeHear p145 p137 p146 p138 p139 p140 p141 p147 3 0 p137 y148.1 0 false y149.1).bind fun y151 =>
            f_spec_l4DrawRight.l0 n p127 (IntKind.wrap .i64 (p128 + (1 : Int))) p129 y150.2.1 y150.2.2 p132 p133 p134 p135 p136 y151.2.1 y151.2.2.2.1 y151.2.2.2.2.1 y151.2.2.2.2.2.1 y151.2.2.2.2.2.2.1 p142 p143 p144 y151.1 y151.2.2.1 y151.2.2.2.2.2.2.2.1
          else
            (f_spec_HomeHear p145 p137 p146 p138 p139 p140 p141 p147 3 0 y150.1 y148.1 0 false y149.1).bind fun y152 =>
            f_spec_l4DrawRight.l0 n p127 (IntKind.wrap .i64 (p128 + (1 : Int))) p129 y150.2.1 y150.2.2 p132 p133 p134 p135 p136 y152.2.1 y152.2.2.2.1 y152.2.2.2.2.1 y152.2.2.2.2.2.1 y152.2.2.2.2.2.2.1 p142 p143 p144 y152.1 y152.2.2.1 y152.2.2.2.2.2.2.2.1
        else
          (f_spec_HomeHear p145 p137 p146 p138 p139 p140 p141 p147 3 0 y150.1 y148.1 0 false y149.1).bind fun y153 =>
          f_spec_l4DrawRight.l0 n p127 (IntKind.wrap .i64 (p128 + (1 : Int))) p129 y150.2.1 y150.2.2 p132 p133 p134 p135 p136 y153.2.1 y153.2.2.2.1 y153.2.2.2.2.1 y153.2.2.2.2.2.1 y153.2.2.2.2.2.2.1 p142 p143 p144 y153.1 y153.2.2.1 y153.2.2.2.2.2.2.2.1
      else
        (f_spec_l1Below p129 y148.2.1 y148.2.2 3).bind fun y154 =>
        bif (decide (y148.1 = (7 : Int))) then
          bif (decide ((0 : Int) ≤ p137)) then
            (f_spec_HomeHear p145 p137 p146 p138 p139 p140 p141 p147 3 0 p137 y148.1 0 false []).bind fun y155 =>
            f_spec_l4DrawRight.l0 n p127 (IntKind.wrap .i64 (p128 + (1 : Int))) p129 y154.2.1 y154.2.2 p132 p133 p134 p135 p136 y155.2.1 y155.2.2.2.1 y155.2.2.2.2.1 y155.2.2.2.2.2.1 y155.2.2.2.2.2.2.1 p142 p143 p144 y155.1 y155.2.2.1 y155.2.2.2.2.2.2.2.1
          else
            (f_spec_HomeHear p145 p137 p146 p138 p139 p140 p141 p147 3 0 y154.1 y148.1 0 false []).bind fun y156 =>
            f_spec_l4DrawRight.l0 n p127 (IntKind.wrap .i64 (p128 + (1 : Int))) p129 y154.2.1 y154.2.2 p132 p133 p134 p135 p136 y156.2.1 y156.2.2.2.1 y156.2.2.2.2.1 y156.2.2.2.2.2.1 y156.2.2.2.2.2.2.1 p142 p143 p144 y156.1 y156.2.2.1 y156.2.2.2.2.2.2.2.1
        else
          (f_spec_HomeHear p145 p137 p146 p138 p139 p140 p141 p147 3 0 y154.1 y148.1 0 false []).bind fun y157 =>
          f_spec_l4DrawRight.l0 n p127 (IntKind.wrap .i64 (p128 + (1 : Int))) p129 y154.2.1 y154.2.2 p132 p133 p134 p135 p136 y157.2.1 y157.2.2.2.1 y157.2.2.2.2.1 y157.2.2.2.2.2.1 y157.2.2.2.2.2.2.1 p142 p143 p144 y157.1 y157.2.2.1 y157.2.2.2.2.2.2.2.1
    else
      some (p129, p130, p131, p132, p133, p134, p135, p136, p137, p138, p139, p140, p141, p142, p143, p144, p145, p146, p147)
noncomputable def f_spec_l4DrawRight (x0 : List Int) (x1 : Int) (x2 : Int) : Option (List Int × Int × List Bool × Bool × Int × Bool × Int × (List (Int × Bool)) × Int × Int) :=
  (f_spec_HomeNew 3).bind fun y125 =>
  (f_spec_l1Below x0 x1 x2 8).bind fun y126 =>
  (f_spec_l4DrawRight.l0 N y126.1 0 x0 y126.2.1 y126.2.2 0 false 0 false 0 y125.2.1 y125.2.2.2.1 y125.2.2.2.2.1 y125.2.2.2.2.2.1 y125.2.2.2.2.2.2.1 ([] : List Int) ([] : List Bool) ([] : List (Int × Bool)) y125.1 y125.2.2.1 y125.2.2.2.2.2.2.2).bind fun r158 =>
  some (r158.2.2.2.2.2.2.2.2.2.2.2.2.2.2.2.2.1, r158.2.2.2.2.2.2.2.2.1, r158.2.2.2.2.2.2.2.2.2.2.2.2.2.2.2.2.2.1, r158.2.2.2.2.2.2.2.2.2.1, r158.2.2.2.2.2.2.2.2.2.2.1, r158.2.2.2.2.2.2.2.2.2.2.2.1, r158.2.2.2.2.2.2.2.2.2.2.2.2.1, r158.2.2.2.2.2.2.2.2.2.2.2.2.2.2.2.2.2.2, r158.2.1, r158.2.2.1)
noncomputable def C196 : Con := ⟨[(.P [false, true, true], false, [(.sl R0), (.int .i64), (.int .i64)])], [(true, [(.sl R1), (.int .i64), (.sl R2), .bool, (.int .i64), .bool, (.int .i64), (.sl R3)])], [(.sl R0), (.int .i64), (.int .i64)], [(.sl R1), (.int .i64), (.sl R2), .bool, (.int .i64), .bool, (.int .i64), (.sl R3), (.int .i64), (.int .i64)], fun (p : List Int × Int × Int) => f_spec_l4DrawRight p.1 p.2.1 p.2.2⟩
noncomputable def f_spec_l4DrawRight.l0.c : LoopCon := ⟨1000, 6, [0, 2, 3, 4, 5], ⟨[(0, .ptr 500 0), (2, .ptr 1000 0), (3, .ptr 1001 0), (4, .int .i64 0), (5, .int .i64 0)], [(500, .box [.bor (some 0) R0 [], .int .i64 0, .int .i64 0]), (1000, .box [.ref 1002 [] none, .int .i64 0, .ref 1003 [] none, .bool false, .int .i64 0, .bool false, .int .i64 0, .ref 1004 [] none]), (1001, .box [.ref 1005 [] none, .int .i64 0, .ref 1006 [] none, .bool false, .int .i64 0, .bool false, .int .i64 0, .ref 1007 [] none]), (1002, .row R1 []), (1003, .row R2 []), (1004, .row R3 []), (1005, .row R1 []), (1006, .row R2 []), (1007, .row R3 [])], 1008⟩, [(.int .i64), (.int .i64), (.sl R0), (.int .i64), (.int .i64), (.int .i64), .bool, (.int .i64), .bool, (.int .i64), (.int .i64), .bool, (.int .i64), .bool, (.int .i64), (.sl R1), (.sl R2), (.sl R3), (.sl R1), (.sl R2), (.sl R3)], [⟨.exit 0, [2, 3], ⟨[(2, .ptr 1000 0), (3, .ptr 1001 0)], [(500, .box [.bor (some 0) R0 [], .int .i64 0, .int .i64 0]), (1000, .box [.ref 1002 [] none, .int .i64 0, .ref 1003 [] none, .bool false, .int .i64 0, .bool false, .int .i64 0, .ref 1004 [] none]), (1001, .box [.ref 1005 [] none, .int .i64 0, .ref 1006 [] none, .bool false, .int .i64 0, .bool false, .int .i64 0, .ref 1007 [] none]), (1002, .row R1 []), (1003, .row R2 []), (1004, .row R3 []), (1005, .row R1 []), (1006, .row R2 []), (1007, .row R3 [])], 1008⟩, [(.sl R0), (.int .i64), (.int .i64), (.int .i64), .bool, (.int .i64), .bool, (.int .i64), (.int .i64), .bool, (.int .i64), .bool, (.int .i64), (.sl R1), (.sl R2), (.sl R3), (.sl R1), (.sl R2), (.sl R3)]⟩], fun (p : Int × Int × List Int × Int × Int × Int × Bool × Int × Bool × Int × Int × Bool × Int × Bool × Int × List Int × List Bool × (List (Int × Bool)) × List Int × List Bool × (List (Int × Bool))) => f_spec_l4DrawRight.l0 N p.1 p.2.1 p.2.2.1 p.2.2.2.1 p.2.2.2.2.1 p.2.2.2.2.2.1 p.2.2.2.2.2.2.1 p.2.2.2.2.2.2.2.1 p.2.2.2.2.2.2.2.2.1 p.2.2.2.2.2.2.2.2.2.1 p.2.2.2.2.2.2.2.2.2.2.1 p.2.2.2.2.2.2.2.2.2.2.2.1 p.2.2.2.2.2.2.2.2.2.2.2.2.1 p.2.2.2.2.2.2.2.2.2.2.2.2.2.1 p.2.2.2.2.2.2.2.2.2.2.2.2.2.2.1 p.2.2.2.2.2.2.2.2.2.2.2.2.2.2.2.1 p.2.2.2.2.2.2.2.2.2.2.2.2.2.2.2.2.1 p.2.2.2.2.2.2.2.2.2.2.2.2.2.2.2.2.2.1 p.2.2.2.2.2.2.2.2.2.2.2.2.2.2.2.2.2.2.1 p.2.2.2.2.2.2.2.2.2.2.2.2.2.2.2.2.2.2.2.1 p.2.2.2.2.2.2.2.2.2.2.2.2.2.2.2.2.2.2.2.2⟩
noncomputable abbrev K196 : Cons := [(87, C87), (94, C94), (109, C109), (110, C110), (188, C188)]
noncomputable abbrev L196 : List (Nat × Loops) := [(196, [(4, f_spec_l4DrawRight.l0.c)])]
abbrev Q196 : List (Nat × List (Int × Nat) × Nat) := []
noncomputable abbrev X196 : Nat → Ctx := ctxOf tb K196 L196 Q196
theorem f_spec_l4DrawRight.l0.ok : ∀ n p, (fun (p : Int × Int × List Int × Int × Int × Int × Bool × Int × Bool × Int × Int × Bool × Int × Bool × Int × List Int × List Bool × (List (Int × Bool)) × List Int × List Bool × (List (Int × Bool))) => f_spec_l4DrawRight.l0 n p.1 p.2.1 p.2.2.1 p.2.2.2.1 p.2.2.2.2.1 p.2.2.2.2.2.1 p.2.2.2.2.2.2.1 p.2.2.2.2.2.2.2.1 p.2.2.2.2.2.2.2.2.1 p.2.2.2.2.2.2.2.2.2.1 p.2.2.2.2.2.2.2.2.2.2.1 p.2.2.2.2.2.2.2.2.2.2.2.1 p.2.2.2.2.2.2.2.2.2.2.2.2.1 p.2.2.2.2.2.2.2.2.2.2.2.2.2.1 p.2.2.2.2.2.2.2.2.2.2.2.2.2.2.1 p.2.2.2.2.2.2.2.2.2.2.2.2.2.2.2.1 p.2.2.2.2.2.2.2.2.2.2.2.2.2.2.2.2.1 p.2.2.2.2.2.2.2.2.2.2.2.2.2.2.2.2.2.1 p.2.2.2.2.2.2.2.2.2.2.2.2.2.2.2.2.2.2.1 p.2.2.2.2.2.2.2.2.2.2.2.2.2.2.2.2.2.2.2.1 p.2.2.2.2.2.2.2.2.2.2.2.2.2.2.2.2.2.2.2.2) p = iterD (roundOf fs X196 6 196 4 false f_spec_l4DrawRight.l0.c) n p :=
  iter_of (l := fun n => fun (p : Int × Int × List Int × Int × Int × Int × Bool × Int × Bool × Int × Int × Bool × Int × Bool × Int × List Int × List Bool × (List (Int × Bool)) × List Int × List Bool × (List (Int × Bool))) => f_spec_l4DrawRight.l0 n p.1 p.2.1 p.2.2.1 p.2.2.2.1 p.2.2.2.2.1 p.2.2.2.2.2.1 p.2.2.2.2.2.2.1 p.2.2.2.2.2.2.2.1 p.2.2.2.2.2.2.2.2.1 p.2.2.2.2.2.2.2.2.2.1 p.2.2.2.2.2.2.2.2.2.2.1 p.2.2.2.2.2.2.2.2.2.2.2.1 p.2.2.2.2.2.2.2.2.2.2.2.2.1 p.2.2.2.2.2.2.2.2.2.2.2.2.2.1 p.2.2.2.2.2.2.2.2.2.2.2.2.2.2.1 p.2.2.2.2.2.2.2.2.2.2.2.2.2.2.2.1 p.2.2.2.2.2.2.2.2.2.2.2.2.2.2.2.2.1 p.2.2.2.2.2.2.2.2.2.2.2.2.2.2.2.2.2.1 p.2.2.2.2.2.2.2.2.2.2.2.2.2.2.2.2.2.2.1 p.2.2.2.2.2.2.2.2.2.2.2.2.2.2.2.2.2.2.2.1 p.2.2.2.2.2.2.2.2.2.2.2.2.2.2.2.2.2.2.2.2) (fun _ => rfl) (fun n p => by kernel_rfl)
theorem E196 : ∀ x, funG fs X196 6 196 C196 x = C196.fn x := fun x => by kernel_rfl
theorem B196 : ConG Try.prog 196 C196 := ConG.make FS MIX TY (cons := K196) (L := L196) (ptrs := Q196) ⟨S87, S94, S109, S110, S188, trivial⟩ trivial ⟨⟨⟨N, fun p => f_spec_l4DrawRight.l0.ok N p⟩, trivial⟩, trivial⟩ rfl (by kernel_rfl) E196
theorem S196 : ConS Try.prog 196 C196 := B196.call (by kernel_rfl)
/-! spec.l4Draw: function 161 -/
noncomputable def f_spec_l4Draw.l0 : Nat → (List Int) → Int → Int → Int → Bool → Int → Bool → Int → Int → Bool → Int → Bool → Int → (List Int) → (List Bool) → (List (Int × Bool)) → (List Int) → (List Bool) → (List (Int × Bool)) → Option (List Int × Int × Int × Int × Bool × Int × Bool × Int × Int × Bool × Int × Bool × Int × List Int × List Bool × (List (Int × Bool)) × List Int × List Bool × (List (Int × Bool)))
  | 0, _, _, _, _, _, _, _, _, _, _, _, _, _, _, _, _, _, _, _ => none
  | n + 1, p166, p167, p168, p169, p170, p171, p172, p173, p174, p175, p176, p177, p178, p179, p180, p181, p182, p183, p184 =>
    (f_spec_l1Below p166 p167 p168 2).bind fun y185 =>
    bif (decide ((p184.length : Int) < (IntKind.wrap .i64 ((12 : Int) + y185.1)))) then
      bif (Nat.blt (p184.length + ([(0, false)] : List (Int × Bool)).length) 8796093022208) then
      (some ((p184 ++ ([(0, false)] : List (Int × Bool))) : List (Int × Bool))).bind fun z186 =>
      f_spec_l4Draw.l0 n p166 y185.2.1 y185.2.2 p169 p170 p171 p172 p173 p174 p175 p176 p177 p178 p179 p180 p181 p182 p183 z186
      else none
    else
      some (p166, y185.2.1, y185.2.2, p169, p170, p171, p172, p173, p174, p175, p176, p177, p178, p179, p180, p181, p182, p183, p184)
noncomputable def f_spec_l4Draw (x0 : List Int) (x1 : Int) (x2 : Int) : Option (List Int × Int × List Bool × Bool × Int × Bool × Int × (List (Int × Bool)) × Int × Int) :=
  (f_spec_l4DrawRight x0 x1 x2).bind fun y159 =>
  (f_spec_l1Below x0 y159.2.2.2.2.2.2.2.2.1 y159.2.2.2.2.2.2.2.2.2 15).bind fun y160 =>
  bif (decide (y160.1 = (0 : Int))) then
    (f_spec_l1PickInt x0 y160.2.1 y160.2.2 ([-2, -1, 2, 3] : List Int)).bind fun y161 =>
    some (y159.1, y161.1, y159.2.2.1, y159.2.2.2.1, y159.2.2.2.2.1, y159.2.2.2.2.2.1, y159.2.2.2.2.2.2.1, y159.2.2.2.2.2.2.2.1, y161.2.1, y161.2.2)
  else
    bif (decide (y160.1 = (1 : Int))) then
      (f_spec_l1PickInt x0 y160.2.1 y160.2.2 ([-1, 0, 1, 4] : List Int)).bind fun y162 =>
      some (y159.1, y159.2.1, y159.2.2.1, y159.2.2.2.1, y159.2.2.2.2.1, y159.2.2.2.2.2.1, y162.1, y159.2.2.2.2.2.2.2.1, y162.2.1, y162.2.2)
    else
      bif (decide (y160.1 = (2 : Int))) then
        bif (Nat.blt (y159.2.2.1.length + ([true] : List Bool).length) 140737488355328) then
        (some ((y159.2.2.1 ++ ([true] : List Bool)) : List Bool)).bind fun z163 =>
        some (y159.1, y159.2.1, z163, y159.2.2.2.1, y159.2.2.2.2.1, y159.2.2.2.2.2.1, y159.2.2.2.2.2.2.1, y159.2.2.2.2.2.2.2.1, y160.2.1, y160.2.2)
        else none
      else
        bif (decide (y160.1 = (3 : Int))) then
          (f_spec_l1Below x0 y160.2.1 y160.2.2 5).bind fun y164 =>
          bif (Nat.blt (y159.2.2.2.2.2.2.2.1.length + ([(y164.1, false)] : List (Int × Bool)).length) 8796093022208) then
          (some ((y159.2.2.2.2.2.2.2.1 ++ ([(y164.1, false)] : List (Int × Bool))) : List (Int × Bool))).bind fun z165 =>
          some (y159.1, y159.2.1, y159.2.2.1, y159.2.2.2.1, y159.2.2.2.2.1, y159.2.2.2.2.2.1, y159.2.2.2.2.2.2.1, z165, y164.2.1, y164.2.2)
          else none
        else
          bif (decide (y160.1 = (4 : Int))) then
            some (y159.1, y159.2.1, y159.2.2.1, (!y159.2.2.2.1), y159.2.2.2.2.1, y159.2.2.2.2.2.1, y159.2.2.2.2.2.2.1, y159.2.2.2.2.2.2.2.1, y160.2.1, y160.2.2)
          else
            bif (decide (y160.1 = (5 : Int))) then
              (f_spec_l4Draw.l0 N x0 y160.2.1 y160.2.2 0 false 0 false 0 y159.2.1 y159.2.2.2.1 y159.2.2.2.2.1 y159.2.2.2.2.2.1 y159.2.2.2.2.2.2.1 ([] : List Int) ([] : List Bool) ([] : List (Int × Bool)) y159.1 y159.2.2.1 y159.2.2.2.2.2.2.2.1).bind fun r187 =>
              some (r187.2.2.2.2.2.2.2.2.2.2.2.2.2.2.2.2.1, r187.2.2.2.2.2.2.2.2.1, r187.2.2.2.2.2.2.2.2.2.2.2.2.2.2.2.2.2.1, r187.2.2.2.2.2.2.2.2.2.1, r187.2.2.2.2.2.2.2.2.2.2.1, r187.2.2.2.2.2.2.2.2.2.2.2.1, r187.2.2.2.2.2.2.2.2.2.2.2.2.1, r187.2.2.2.2.2.2.2.2.2.2.2.2.2.2.2.2.2.2, r187.2.1, r187.2.2.1)
            else
              some (y159.1, y159.2.1, y159.2.2.1, y159.2.2.2.1, y159.2.2.2.2.1, y159.2.2.2.2.2.1, y159.2.2.2.2.2.2.1, y159.2.2.2.2.2.2.2.1, y160.2.1, y160.2.2)
noncomputable def C161 : Con := ⟨[(.P [false, true, true], false, [(.sl R0), (.int .i64), (.int .i64)])], [(true, [(.sl R1), (.int .i64), (.sl R2), .bool, (.int .i64), .bool, (.int .i64), (.sl R3)])], [(.sl R0), (.int .i64), (.int .i64)], [(.sl R1), (.int .i64), (.sl R2), .bool, (.int .i64), .bool, (.int .i64), (.sl R3), (.int .i64), (.int .i64)], fun (p : List Int × Int × Int) => f_spec_l4Draw p.1 p.2.1 p.2.2⟩
noncomputable def f_spec_l4Draw.l0.c : LoopCon := ⟨1000, 6, [0, 2, 3], ⟨[(0, .ptr 500 0), (2, .ptr 1000 0), (3, .ptr 1001 0)], [(500, .box [.bor (some 0) R0 [], .int .i64 0, .int .i64 0]), (1000, .box [.ref 1002 [] none, .int .i64 0, .ref 1003 [] none, .bool false, .int .i64 0, .bool false, .int .i64 0, .ref 1004 [] none]), (1001, .box [.ref 1005 [] none, .int .i64 0, .ref 1006 [] none, .bool false, .int .i64 0, .bool false, .int .i64 0, .ref 1007 [] none]), (1002, .row R1 []), (1003, .row R2 []), (1004, .row R3 []), (1005, .row R1 []), (1006, .row R2 []), (1007, .row R3 [])], 1008⟩, [(.sl R0), (.int .i64), (.int .i64), (.int .i64), .bool, (.int .i64), .bool, (.int .i64), (.int .i64), .bool, (.int .i64), .bool, (.int .i64), (.sl R1), (.sl R2), (.sl R3), (.sl R1), (.sl R2), (.sl R3)], [⟨.exit 1, [2, 3], ⟨[(2, .ptr 1000 0), (3, .ptr 1001 0)], [(500, .box [.bor (some 0) R0 [], .int .i64 0, .int .i64 0]), (1000, .box [.ref 1002 [] none, .int .i64 0, .ref 1003 [] none, .bool false, .int .i64 0, .bool false, .int .i64 0, .ref 1004 [] none]), (1001, .box [.ref 1005 [] none, .int .i64 0, .ref 1006 [] none, .bool false, .int .i64 0, .bool false, .int .i64 0, .ref 1007 [] none]), (1002, .row R1 []), (1003, .row R2 []), (1004, .row R3 []), (1005, .row R1 []), (1006, .row R2 []), (1007, .row R3 [])], 1008⟩, [(.sl R0), (.int .i64), (.int .i64), (.int .i64), .bool, (.int .i64), .bool, (.int .i64), (.int .i64), .bool, (.int .i64), .bool, (.int .i64), (.sl R1), (.sl R2), (.sl R3), (.sl R1), (.sl R2), (.sl R3)]⟩], fun (p : List Int × Int × Int × Int × Bool × Int × Bool × Int × Int × Bool × Int × Bool × Int × List Int × List Bool × (List (Int × Bool)) × List Int × List Bool × (List (Int × Bool))) => f_spec_l4Draw.l0 N p.1 p.2.1 p.2.2.1 p.2.2.2.1 p.2.2.2.2.1 p.2.2.2.2.2.1 p.2.2.2.2.2.2.1 p.2.2.2.2.2.2.2.1 p.2.2.2.2.2.2.2.2.1 p.2.2.2.2.2.2.2.2.2.1 p.2.2.2.2.2.2.2.2.2.2.1 p.2.2.2.2.2.2.2.2.2.2.2.1 p.2.2.2.2.2.2.2.2.2.2.2.2.1 p.2.2.2.2.2.2.2.2.2.2.2.2.2.1 p.2.2.2.2.2.2.2.2.2.2.2.2.2.2.1 p.2.2.2.2.2.2.2.2.2.2.2.2.2.2.2.1 p.2.2.2.2.2.2.2.2.2.2.2.2.2.2.2.2.1 p.2.2.2.2.2.2.2.2.2.2.2.2.2.2.2.2.2.1 p.2.2.2.2.2.2.2.2.2.2.2.2.2.2.2.2.2.2⟩
noncomputable abbrev K161 : Cons := [(109, C109), (110, C110), (196, C196)]
noncomputable abbrev L161 : List (Nat × Loops) := [(161, [(14, f_spec_l4Draw.l0.c)])]
abbrev Q161 : List (Nat × List (Int × Nat) × Nat) := []
noncomputable abbrev X161 : Nat → Ctx := ctxOf tb K161 L161 Q161
theorem f_spec_l4Draw.l0.ok : ∀ n p, (fun (p : List Int × Int × Int × Int × Bool × Int × Bool × Int × Int × Bool × Int × Bool × Int × List Int × List Bool × (List (Int × Bool)) × List Int × List Bool × (List (Int × Bool))) => f_spec_l4Draw.l0 n p.1 p.2.1 p.2.2.1 p.2.2.2.1 p.2.2.2.2.1 p.2.2.2.2.2.1 p.2.2.2.2.2.2.1 p.2.2.2.2.2.2.2.1 p.2.2.2.2.2.2.2.2.1 p.2.2.2.2.2.2.2.2.2.1 p.2.2.2.2.2.2.2.2.2.2.1 p.2.2.2.2.2.2.2.2.2.2.2.1 p.2.2.2.2.2.2.2.2.2.2.2.2.1 p.2.2.2.2.2.2.2.2.2.2.2.2.2.1 p.2.2.2.2.2.2.2.2.2.2.2.2.2.2.1 p.2.2.2.2.2.2.2.2.2.2.2.2.2.2.2.1 p.2.2.2.2.2.2.2.2.2.2.2.2.2.2.2.2.1 p.2.2.2.2.2.2.2.2.2.2.2.2.2.2.2.2.2.1 p.2.2.2.2.2.2.2.2.2.2.2.2.2.2.2.2.2.2) p = iterD (roundOf fs X161 6 161 14 false f_spec_l4Draw.l0.c) n p :=
  iter_of (l := fun n => fun (p : List Int × Int × Int × Int × Bool × Int × Bool × Int × Int × Bool × Int × Bool × Int × List Int × List Bool × (List (Int × Bool)) × List Int × List Bool × (List (Int × Bool))) => f_spec_l4Draw.l0 n p.1 p.2.1 p.2.2.1 p.2.2.2.1 p.2.2.2.2.1 p.2.2.2.2.2.1 p.2.2.2.2.2.2.1 p.2.2.2.2.2.2.2.1 p.2.2.2.2.2.2.2.2.1 p.2.2.2.2.2.2.2.2.2.1 p.2.2.2.2.2.2.2.2.2.2.1 p.2.2.2.2.2.2.2.2.2.2.2.1 p.2.2.2.2.2.2.2.2.2.2.2.2.1 p.2.2.2.2.2.2.2.2.2.2.2.2.2.1 p.2.2.2.2.2.2.2.2.2.2.2.2.2.2.1 p.2.2.2.2.2.2.2.2.2.2.2.2.2.2.2.1 p.2.2.2.2.2.2.2.2.2.2.2.2.2.2.2.2.1 p.2.2.2.2.2.2.2.2.2.2.2.2.2.2.2.2.2.1 p.2.2.2.2.2.2.2.2.2.2.2.2.2.2.2.2.2.2) (fun _ => rfl) (fun n p => by kernel_rfl)
theorem E161 : ∀ x, funG fs X161 6 161 C161 x = C161.fn x := fun x => by kernel_rfl
theorem B161 : ConG Try.prog 161 C161 := ConG.make FS MIX TY (cons := K161) (L := L161) (ptrs := Q161) ⟨S109, S110, S196, trivial⟩ trivial ⟨⟨⟨N, fun p => f_spec_l4Draw.l0.ok N p⟩, trivial⟩, trivial⟩ rfl (by kernel_rfl) E161
theorem S161 : ConS Try.prog 161 C161 := B161.call (by kernel_rfl)
/-! spec.l1Once: function 141 -/
noncomputable def f_spec_l1Once (x0 : List Int) (x1 : Int) (x2 : Int) (x3 : Int) : Option (Bool × Int × Int) :=
  (f_spec_l1Below x0 x1 x2 x3).bind fun y188 =>
  some ((decide (y188.1 = (0 : Int))), y188.2.1, y188.2.2)
noncomputable def C141 : Con := ⟨[(.P [false, true, true], false, [(.sl R0), (.int .i64), (.int .i64)]), (.B, false, [(.int .i64)])], [(false, [.bool])], [(.sl R0), (.int .i64), (.int .i64), (.int .i64)], [.bool, (.int .i64), (.int .i64)], fun (p : List Int × Int × Int × Int) => f_spec_l1Once p.1 p.2.1 p.2.2.1 p.2.2.2⟩
noncomputable abbrev K141 : Cons := [(109, C109)]
noncomputable abbrev L141 : List (Nat × Loops) := []
abbrev Q141 : List (Nat × List (Int × Nat) × Nat) := []
noncomputable abbrev X141 : Nat → Ctx := ctxOf tb K141 L141 Q141
theorem E141 : ∀ x, funG fs X141 6 141 C141 x = C141.fn x := fun x => by kernel_rfl
theorem B141 : ConG Try.prog 141 C141 := ConG.make FS MIX TY (cons := K141) (L := L141) (ptrs := Q141) ⟨S109, trivial⟩ trivial trivial rfl (by kernel_rfl) E141
theorem S141 : ConS Try.prog 141 C141 := B141.call (by kernel_rfl)
/-! spec.l1DrawRight: function 134 -/
noncomputable def f_spec_l1DrawRight (x0 : List Int) (x1 : Int) (x2 : Int) : Option (Int × Int × Bool × List Int × Int × Int) :=
  (f_spec_l1Below x0 x1 x2 7).bind fun y189 =>
  (f_spec_l1Below x0 y189.2.1 y189.2.2 6).bind fun y190 =>
  bif (decide ((IntKind.wrap .i64 ((1 : Int) + y189.1)) = (3 : Int))) then
    (f_spec_l1Once x0 y190.2.1 y190.2.2 2).bind fun y191 =>
    bif (decide ((IntKind.wrap .i64 ((1 : Int) + y189.1)) = (3 : Int))) then
      (f_spec_l1DrawList x0 y191.2.1 y191.2.2).bind fun y192 =>
      some ((IntKind.wrap .i64 ((1 : Int) + y189.1)), y190.1, y191.1, y192.1, y192.2.1, y192.2.2)
    else
      bif (decide ((IntKind.wrap .i64 ((1 : Int) + y189.1)) = (7 : Int))) then
        (f_spec_l1DrawList x0 y191.2.1 y191.2.2).bind fun y193 =>
        some ((IntKind.wrap .i64 ((1 : Int) + y189.1)), y190.1, y191.1, y193.1, y193.2.1, y193.2.2)
      else
        some ((IntKind.wrap .i64 ((1 : Int) + y189.1)), y190.1, y191.1, [], y191.2.1, y191.2.2)
  else
    bif (decide ((IntKind.wrap .i64 ((1 : Int) + y189.1)) = (6 : Int))) then
      (f_spec_l1Once x0 y190.2.1 y190.2.2 2).bind fun y194 =>
      bif (decide ((IntKind.wrap .i64 ((1 : Int) + y189.1)) = (3 : Int))) then
        (f_spec_l1DrawList x0 y194.2.1 y194.2.2).bind fun y195 =>
        some ((IntKind.wrap .i64 ((1 : Int) + y189.1)), y190.1, y194.1, y195.1, y195.2.1, y195.2.2)
      else
        bif (decide ((IntKind.wrap .i64 ((1 : Int) + y189.1)) = (7 : Int))) then
          (f_spec_l1DrawList x0 y194.2.1 y194.2.2).bind fun y196 =>
          some ((IntKind.wrap .i64 ((1 : Int) + y189.1)), y190.1, y194.1, y196.1, y196.2.1, y196.2.2)
        else
          some ((IntKind.wrap .i64 ((1 : Int) + y189.1)), y190.1, y194.1, [], y194.2.1, y194.2.2)
    else
      bif (decide ((IntKind.wrap .i64 ((1 : Int) + y189.1)) = (3 : Int))) then
        (f_spec_l1DrawList x0 y190.2.1 y190.2.2).bind fun y197 =>
        some ((IntKind.wrap .i64 ((1 : Int) + y189.1)), y190.1, false, y197.1, y197.2.1, y197.2.2)
      else
        bif (decide ((IntKind.wrap .i64 ((1 : Int) + y189.1)) = (7 : Int))) then
          (f_spec_l1DrawList x0 y190.2.1 y190.2.2).bind fun y198 =>
          some ((IntKind.wrap .i64 ((1 : Int) + y189.1)), y190.1, false, y198.1, y198.2.1, y198.2.2)
        else
          some ((IntKind.wrap .i64 ((1 : Int) + y189.1)), y190.1, false, [], y190.2.1, y190.2.2)
noncomputable def C134 : Con := ⟨[(.P [false, true, true], false, [(.sl R0), (.int .i64), (.int .i64)])], [(true, [(.int .i64), (.int .i64), .bool, (.sl R1)])], [(.sl R0), (.int .i64), (.int .i64)], [(.int .i64), (.int .i64), .bool, (.sl R1), (.int .i64), (.int .i64)], fun (p : List Int × Int × Int) => f_spec_l1DrawRight p.1 p.2.1 p.2.2⟩
noncomputable abbrev K134 : Cons := [(109, C109), (141, C141), (188, C188)]
noncomputable abbrev L134 : List (Nat × Loops) := []
abbrev Q134 : List (Nat × List (Int × Nat) × Nat) := []
noncomputable abbrev X134 : Nat → Ctx := ctxOf tb K134 L134 Q134
theorem E134 : ∀ x, funG fs X134 6 134 C134 x = C134.fn x := fun x => by kernel_rfl
theorem B134 : ConG Try.prog 134 C134 := ConG.make FS MIX TY (cons := K134) (L := L134) (ptrs := Q134) ⟨S109, S141, S188, trivial⟩ trivial trivial rfl (by kernel_rfl) E134
theorem S134 : ConS Try.prog 134 C134 := B134.call (by kernel_rfl)
/-! spec.l1Draw: function 115 -/
noncomputable def f_spec_l1Draw (x0 : List Int) (x1 : Int) (x2 : Int) : Option (Int × Int × Bool × List Int × Int × Int) :=
  (f_spec_l1DrawRight x0 x1 x2).bind fun y199 =>
  (f_spec_l1Below x0 y199.2.2.2.2.1 y199.2.2.2.2.2 12).bind fun y200 =>
  bif (decide (y200.1 = (0 : Int))) then
    (f_spec_l1Below x0 y200.2.1 y200.2.2 9).bind fun y201 =>
    some (y201.1, y199.2.1, y199.2.2.1, y199.2.2.2.1, y201.2.1, y201.2.2)
  else
    bif (decide (y200.1 = (1 : Int))) then
      (f_spec_l1PickInt x0 y200.2.1 y200.2.2 ([-1, 6] : List Int)).bind fun y202 =>
      some (y199.1, y202.1, y199.2.2.1, y199.2.2.2.1, y202.2.1, y202.2.2)
    else
      bif (decide (y200.1 = (2 : Int))) then
        some (y199.1, y199.2.1, (!y199.2.2.1), y199.2.2.2.1, y200.2.1, y200.2.2)
      else
        bif (decide (y200.1 = (3 : Int))) then
          (f_spec_l1PickInt x0 y200.2.1 y200.2.2 ([-1, 3, 65536] : List Int)).bind fun y203 =>
          bif (Nat.blt (y199.2.2.2.1.length + ([y203.1] : List Int).length) 17592186044416) then
          (some ((y199.2.2.2.1 ++ ([y203.1] : List Int)) : List Int)).bind fun z204 =>
          some (y199.1, y199.2.1, y199.2.2.1, z204, y203.2.1, y203.2.2)
          else none
        else
          some (y199.1, y199.2.1, y199.2.2.1, y199.2.2.2.1, y200.2.1, y200.2.2)
noncomputable def C115 : Con := ⟨[(.P [false, true, true], false, [(.sl R0), (.int .i64), (.int .i64)])], [(true, [(.int .i64), (.int .i64), .bool, (.sl R1)])], [(.sl R0), (.int .i64), (.int .i64)], [(.int .i64), (.int .i64), .bool, (.sl R1), (.int .i64), (.int .i64)], fun (p : List Int × Int × Int) => f_spec_l1Draw p.1 p.2.1 p.2.2⟩
noncomputable abbrev K115 : Cons := [(109, C109), (110, C110), (134, C134)]
noncomputable abbrev L115 : List (Nat × Loops) := []
abbrev Q115 : List (Nat × List (Int × Nat) × Nat) := []
noncomputable abbrev X115 : Nat → Ctx := ctxOf tb K115 L115 Q115
theorem E115 : ∀ x, funG fs X115 6 115 C115 x = C115.fn x := fun x => by kernel_rfl
theorem B115 : ConG Try.prog 115 C115 := ConG.make FS MIX TY (cons := K115) (L := L115) (ptrs := Q115) ⟨S109, S110, S134, trivial⟩ trivial trivial rfl (by kernel_rfl) E115
theorem S115 : ConS Try.prog 115 C115 := B115.call (by kernel_rfl)
/-! spec.DrawHomeHear: function 85 -/
noncomputable def f_spec_DrawHomeHear.l0 : Nat → (List Int) → Int → Int → Int → Bool → Int → Bool → Int → Int → Int → Bool → Option (List Int × Int × Int × Bool × Int × Bool × Int × Int × Int × Bool)
  | 0, _, _, _, _, _, _, _, _, _, _, _ => none
  | n + 1, p205, p206, p207, p208, p209, p210, p211, p212, p213, p214, p215 =>
    bif (decide (p207 < (p205.length : Int))) then
      bif (decide (p207 < (4000 : Int))) then
        bif ((decide ((0 : Int) ≤ p207)) && (decide (p207 < (p205.length : Int)))) then
        f_spec_DrawHomeHear.l0 n p205 (bitI .and .i64 (IntKind.wrap .i64 ((IntKind.wrap .i64 ((IntKind.wrap .i64 (p206 * (131 : Int))) + (IntKind.wrap .i64 ((p205.getD p207.toNat 0))))) + (7 : Int))) (1073741823 : Int)) (IntKind.wrap .i64 (p207 + (1 : Int))) p208 p209 p210 p211 p212 p213 p214 p215
        else none
      else
        some (p205, p206, p208, p209, p210, p211, p212, p213, p214, p215)
    else
      some (p205, p206, p208, p209, p210, p211, p212, p213, p214, p215)
noncomputable def f_spec_DrawHomeHear (x0 : List Int) : Option (List Int × Int × List Bool × Bool × Int × Bool × Int × (List (Int × Bool)) × Int × Int × Int × Int × Int × Bool × List Int) :=
  (f_spec_DrawHomeHear.l0 N x0 (IntKind.wrap .i64 ((20404 : Int) + (x0.length : Int))) 0 0 false 0 false 0 0 0 false).bind fun r216 =>
  (f_spec_l4Draw r216.1 0 r216.2.1).bind fun y217 =>
  (f_spec_l1Draw r216.1 y217.2.2.2.2.2.2.2.2.1 y217.2.2.2.2.2.2.2.2.2).bind fun y218 =>
  (f_spec_l1PickInt r216.1 y218.2.2.2.2.1 y218.2.2.2.2.2 ([y218.1, 1, 2, 5] : List Int)).bind fun y219 =>
  bif (decide (y219.1 = (1 : Int))) then
    (f_spec_l1Once r216.1 y219.2.1 y219.2.2 15).bind fun y220 =>
    bif y220.1 then
      (f_spec_l1Below r216.1 y220.2.1 y220.2.2 3).bind fun y221 =>
      bif (decide ((0 : Int) ≤ y217.2.1)) then
        (f_spec_l1Once r216.1 y221.2.1 y221.2.2 2).bind fun y222 =>
        bif y222.1 then
          some (y217.1, y217.2.1, y217.2.2.1, y217.2.2.2.1, y217.2.2.2.2.1, y217.2.2.2.2.2.1, y217.2.2.2.2.2.2.1, y217.2.2.2.2.2.2.2.1, 3, (IntKind.wrap .i64 (y218.2.1 + (1 : Int))), y217.2.1, y219.1, y218.2.1, false, [])
        else
          some (y217.1, y217.2.1, y217.2.2.1, y217.2.2.2.1, y217.2.2.2.2.1, y217.2.2.2.2.2.1, y217.2.2.2.2.2.2.1, y217.2.2.2.2.2.2.2.1, 3, (IntKind.wrap .i64 (y218.2.1 + (1 : Int))), y221.1, y219.1, y218.2.1, false, [])
      else
        some (y217.1, y217.2.1, y217.2.2.1, y217.2.2.2.1, y217.2.2.2.2.1, y217.2.2.2.2.2.1, y217.2.2.2.2.2.2.1, y217.2.2.2.2.2.2.2.1, 3, (IntKind.wrap .i64 (y218.2.1 + (1 : Int))), y221.1, y219.1, y218.2.1, false, [])
    else
      (f_spec_l1Below r216.1 y220.2.1 y220.2.2 3).bind fun y223 =>
      bif (decide ((0 : Int) ≤ y217.2.1)) then
        (f_spec_l1Once r216.1 y223.2.1 y223.2.2 2).bind fun y224 =>
        bif y224.1 then
          some (y217.1, y217.2.1, y217.2.2.1, y217.2.2.2.1, y217.2.2.2.2.1, y217.2.2.2.2.2.1, y217.2.2.2.2.2.2.1, y217.2.2.2.2.2.2.2.1, 3, y218.2.1, y217.2.1, y219.1, y218.2.1, false, [])
        else
          some (y217.1, y217.2.1, y217.2.2.1, y217.2.2.2.1, y217.2.2.2.2.1, y217.2.2.2.2.2.1, y217.2.2.2.2.2.2.1, y217.2.2.2.2.2.2.2.1, 3, y218.2.1, y223.1, y219.1, y218.2.1, false, [])
      else
        some (y217.1, y217.2.1, y217.2.2.1, y217.2.2.2.1, y217.2.2.2.2.1, y217.2.2.2.2.2.1, y217.2.2.2.2.2.2.1, y217.2.2.2.2.2.2.2.1, 3, y218.2.1, y223.1, y219.1, y218.2.1, false, [])
  else
    bif (decide (y219.1 = (2 : Int))) then
      (f_spec_l1Once r216.1 y219.2.1 y219.2.2 15).bind fun y225 =>
      bif y225.1 then
        (f_spec_l1Below r216.1 y225.2.1 y225.2.2 3).bind fun y226 =>
        bif (decide ((0 : Int) ≤ y217.2.1)) then
          (f_spec_l1Once r216.1 y226.2.1 y226.2.2 2).bind fun y227 =>
          bif y227.1 then
            some (y217.1, y217.2.1, y217.2.2.1, y217.2.2.2.1, y217.2.2.2.2.1, y217.2.2.2.2.2.1, y217.2.2.2.2.2.2.1, y217.2.2.2.2.2.2.2.1, 3, (IntKind.wrap .i64 (y218.2.1 + (1 : Int))), y217.2.1, y219.1, y218.2.1, false, [])
          else
            some (y217.1, y217.2.1, y217.2.2.1, y217.2.2.2.1, y217.2.2.2.2.1, y217.2.2.2.2.2.1, y217.2.2.2.2.2.2.1, y217.2.2.2.2.2.2.2.1, 3, (IntKind.wrap .i64 (y218.2.1 + (1 : Int))), y226.1, y219.1, y218.2.1, false, [])
        else
          some (y217.1, y217.2.1, y217.2.2.1, y217.2.2.2.1, y217.2.2.2.2.1, y217.2.2.2.2.2.1, y217.2.2.2.2.2.2.1, y217.2.2.2.2.2.2.2.1, 3, (IntKind.wrap .i64 (y218.2.1 + (1 : Int))), y226.1, y219.1, y218.2.1, false, [])
      else
        (f_spec_l1Below r216.1 y225.2.1 y225.2.2 3).bind fun y228 =>
        bif (decide ((0 : Int) ≤ y217.2.1)) then
          (f_spec_l1Once r216.1 y228.2.1 y228.2.2 2).bind fun y229 =>
          bif y229.1 then
            some (y217.1, y217.2.1, y217.2.2.1, y217.2.2.2.1, y217.2.2.2.2.1, y217.2.2.2.2.2.1, y217.2.2.2.2.2.2.1, y217.2.2.2.2.2.2.2.1, 3, y218.2.1, y217.2.1, y219.1, y218.2.1, false, [])
          else
            some (y217.1, y217.2.1, y217.2.2.1, y217.2.2.2.1, y217.2.2.2.2.1, y217.2.2.2.2.2.1, y217.2.2.2.2.2.2.1, y217.2.2.2.2.2.2.2.1, 3, y218.2.1, y228.1, y219.1, y218.2.1, false, [])
        else
          some (y217.1, y217.2.1, y217.2.2.1, y217.2.2.2.1, y217.2.2.2.2.1, y217.2.2.2.2.2.1, y217.2.2.2.2.2.2.1, y217.2.2.2.2.2.2.2.1, 3, y218.2.1, y228.1, y219.1, y218.2.1, false, [])
    else
      bif (decide (y219.1 = (5 : Int))) then
        (f_spec_l1Once r216.1 y219.2.1 y219.2.2 15).bind fun y230 =>
        bif y230.1 then
          (f_spec_l1Below r216.1 y230.2.1 y230.2.2 3).bind fun y231 =>
          bif (decide ((0 : Int) ≤ y217.2.1)) then
            (f_spec_l1Once r216.1 y231.2.1 y231.2.2 2).bind fun y232 =>
            bif y232.1 then
              some (y217.1, y217.2.1, y217.2.2.1, y217.2.2.2.1, y217.2.2.2.2.1, y217.2.2.2.2.2.1, y217.2.2.2.2.2.2.1, y217.2.2.2.2.2.2.2.1, 3, (IntKind.wrap .i64 (y218.2.1 + (1 : Int))), y217.2.1, y219.1, y218.2.1, false, [])
            else
              some (y217.1, y217.2.1, y217.2.2.1, y217.2.2.2.1, y217.2.2.2.2.1, y217.2.2.2.2.2.1, y217.2.2.2.2.2.2.1, y217.2.2.2.2.2.2.2.1, 3, (IntKind.wrap .i64 (y218.2.1 + (1 : Int))), y231.1, y219.1, y218.2.1, false, [])
          else
            some (y217.1, y217.2.1, y217.2.2.1, y217.2.2.2.1, y217.2.2.2.2.1, y217.2.2.2.2.2.1, y217.2.2.2.2.2.2.1, y217.2.2.2.2.2.2.2.1, 3, (IntKind.wrap .i64 (y218.2.1 + (1 : Int))), y231.1, y219.1, y218.2.1, false, [])
        else
          (f_spec_l1Below r216.1 y230.2.1 y230.2.2 3).bind fun y233 =>
          bif (decide ((0 : Int) ≤ y217.2.1)) then
            (f_spec_l1Once r216.1 y233.2.1 y233.2.2 2).bind fun y234 =>
            bif y234.1 then
              some (y217.1, y217.2.1, y217.2.2.1, y217.2.2.2.1, y217.2.2.2.2.1, y217.2.2.2.2.2.1, y217.2.2.2.2.2.2.1, y217.2.2.2.2.2.2.2.1, 3, y218.2.1, y217.2.1, y219.1, y218.2.1, false, [])
            else
              some (y217.1, y217.2.1, y217.2.2.1, y217.2.2.2.1, y217.2.2.2.2.1, y217.2.2.2.2.2.1, y217.2.2.2.2.2.2.1, y217.2.2.2.2.2.2.2.1, 3, y218.2.1, y233.1, y219.1, y218.2.1, false, [])
          else
            some (y217.1, y217.2.1, y217.2.2.1, y217.2.2.2.1, y217.2.2.2.2.1, y217.2.2.2.2.2.1, y217.2.2.2.2.2.2.1, y217.2.2.2.2.2.2.2.1, 3, y218.2.1, y233.1, y219.1, y218.2.1, false, [])
      else
        (f_spec_l1Once r216.1 y219.2.1 y219.2.2 15).bind fun y235 =>
        bif y235.1 then
          (f_spec_l1Below r216.1 y235.2.1 y235.2.2 3).bind fun y236 =>
          bif (decide ((0 : Int) ≤ y217.2.1)) then
            (f_spec_l1Once r216.1 y236.2.1 y236.2.2 2).bind fun y237 =>
            bif y237.1 then
              some (y217.1, y217.2.1, y217.2.2.1, y217.2.2.2.1, y217.2.2.2.2.1, y217.2.2.2.2.2.1, y217.2.2.2.2.2.2.1, y217.2.2.2.2.2.2.2.1, 3, (IntKind.wrap .i64 (y218.2.1 + (1 : Int))), y217.2.1, y219.1, y218.2.1, y218.2.2.1, y218.2.2.2.1)
            else
              some (y217.1, y217.2.1, y217.2.2.1, y217.2.2.2.1, y217.2.2.2.2.1, y217.2.2.2.2.2.1, y217.2.2.2.2.2.2.1, y217.2.2.2.2.2.2.2.1, 3, (IntKind.wrap .i64 (y218.2.1 + (1 : Int))), y236.1, y219.1, y218.2.1, y218.2.2.1, y218.2.2.2.1)
          else
            some (y217.1, y217.2.1, y217.2.2.1, y217.2.2.2.1, y217.2.2.2.2.1, y217.2.2.2.2.2.1, y217.2.2.2.2.2.2.1, y217.2.2.2.2.2.2.2.1, 3, (IntKind.wrap .i64 (y218.2.1 + (1 : Int))), y236.1, y219.1, y218.2.1, y218.2.2.1, y218.2.2.2.1)
        else
          (f_spec_l1Below r216.1 y235.2.1 y235.2.2 3).bind fun y238 =>
          bif (decide ((0 : Int) ≤ y217.2.1)) then
            (f_spec_l1Once r216.1 y238.2.1 y238.2.2 2).bind fun y239 =>
            bif y239.1 then
              some (y217.1, y217.2.1, y217.2.2.1, y217.2.2.2.1, y217.2.2.2.2.1, y217.2.2.2.2.2.1, y217.2.2.2.2.2.2.1, y217.2.2.2.2.2.2.2.1, 3, y218.2.1, y217.2.1, y219.1, y218.2.1, y218.2.2.1, y218.2.2.2.1)
            else
              some (y217.1, y217.2.1, y217.2.2.1, y217.2.2.2.1, y217.2.2.2.2.1, y217.2.2.2.2.2.1, y217.2.2.2.2.2.2.1, y217.2.2.2.2.2.2.2.1, 3, y218.2.1, y238.1, y219.1, y218.2.1, y218.2.2.1, y218.2.2.2.1)
          else
            some (y217.1, y217.2.1, y217.2.2.1, y217.2.2.2.1, y217.2.2.2.2.1, y217.2.2.2.2.2.1, y217.2.2.2.2.2.2.1, y217.2.2.2.2.2.2.2.1, 3, y218.2.1, y238.1, y219.1, y218.2.1, y218.2.2.1, y218.2.2.2.1)
noncomputable def C85 : Con := ⟨[(.B, false, [(.sl R0)])], [(true, [(.sl R1), (.int .i64), (.sl R2), .bool, (.int .i64), .bool, (.int .i64), (.sl R3)]), (false, [(.int .i64)]), (false, [(.int .i64)]), (false, [(.int .i64)]), (true, [(.int .i64), (.int .i64), .bool, (.sl R1)])], [(.sl R0)], [(.sl R1), (.int .i64), (.sl R2), .bool, (.int .i64), .bool, (.int .i64), (.sl R3), (.int .i64), (.int .i64), (.int .i64), (.int .i64), (.int .i64), .bool, (.sl R1)], fun (p : List Int) => f_spec_DrawHomeHear p⟩
noncomputable def f_spec_DrawHomeHear.l0.c : LoopCon := ⟨1129, 5, [0, 3, 4], ⟨[(0, .bor none R0 []), (3, .int .i64 0), (4, .int .i64 0)], [(1001, .box [.nil (some R1), .int .i64 0, .nil (some R2), .bool false, .int .i64 0, .bool false, .int .i64 0, .nil (some R3)]), (1065, .box [.int .i64 0, .int .i64 0, .bool false, .nil (some R1)])], 1129⟩, [(.sl R0), (.int .i64), (.int .i64), (.int .i64), .bool, (.int .i64), .bool, (.int .i64), (.int .i64), (.int .i64), .bool], [⟨.exit 0, [0, 3], ⟨[(0, .bor none R0 []), (3, .int .i64 0)], [(1001, .box [.nil (some R1), .int .i64 0, .nil (some R2), .bool false, .int .i64 0, .bool false, .int .i64 0, .nil (some R3)]), (1065, .box [.int .i64 0, .int .i64 0, .bool false, .nil (some R1)])], 1129⟩, [(.sl R0), (.int .i64), (.int .i64), .bool, (.int .i64), .bool, (.int .i64), (.int .i64), (.int .i64), .bool]⟩], fun (p : List Int × Int × Int × Int × Bool × Int × Bool × Int × Int × Int × Bool) => f_spec_DrawHomeHear.l0 N p.1 p.2.1 p.2.2.1 p.2.2.2.1 p.2.2.2.2.1 p.2.2.2.2.2.1 p.2.2.2.2.2.2.1 p.2.2.2.2.2.2.2.1 p.2.2.2.2.2.2.2.2.1 p.2.2.2.2.2.2.2.2.2.1 p.2.2.2.2.2.2.2.2.2.2⟩
noncomputable abbrev K85 : Cons := [(109, C109), (110, C110), (115, C115), (141, C141), (161, C161)]
noncomputable abbrev L85 : List (Nat × Loops) := [(107, [(3, f_spec_DrawHomeHear.l0.c)])]
abbrev Q85 : List (Nat × List (Int × Nat) × Nat) := []
noncomputable abbrev X85 : Nat → Ctx := ctxOf tb K85 L85 Q85
theorem f_spec_DrawHomeHear.l0.ok : ∀ n p, (fun (p : List Int × Int × Int × Int × Bool × Int × Bool × Int × Int × Int × Bool) => f_spec_DrawHomeHear.l0 n p.1 p.2.1 p.2.2.1 p.2.2.2.1 p.2.2.2.2.1 p.2.2.2.2.2.1 p.2.2.2.2.2.2.1 p.2.2.2.2.2.2.2.1 p.2.2.2.2.2.2.2.2.1 p.2.2.2.2.2.2.2.2.2.1 p.2.2.2.2.2.2.2.2.2.2) p = iterD (roundOf fs X85 5 107 3 true f_spec_DrawHomeHear.l0.c) n p :=
  iter_of (l := fun n => fun (p : List Int × Int × Int × Int × Bool × Int × Bool × Int × Int × Int × Bool) => f_spec_DrawHomeHear.l0 n p.1 p.2.1 p.2.2.1 p.2.2.2.1 p.2.2.2.2.1 p.2.2.2.2.2.1 p.2.2.2.2.2.2.1 p.2.2.2.2.2.2.2.1 p.2.2.2.2.2.2.2.2.1 p.2.2.2.2.2.2.2.2.2.1 p.2.2.2.2.2.2.2.2.2.2) (fun _ => rfl) (fun n p => by kernel_rfl)
theorem E85 : ∀ x, funRun fs X85 6 85 C85 x = C85.fn x := fun x => by kernel_rfl
theorem B85 : ConB Try.prog 85 C85 := ConB.make FS MIX TY (cons := K85) (L := L85) (ptrs := Q85) ⟨S109, S110, S115, S141, S161, trivial⟩ trivial ⟨⟨⟨N, fun p => f_spec_DrawHomeHear.l0.ok N p⟩, trivial⟩, trivial⟩ rfl rfl E85
theorem S85 : ConS Try.prog 85 C85 := B85.call rfl
/-! impl.from: function 103 -/
noncomputable def f_impl_from (x0 : Int) (x1 : Int) (x2 : Int) : Option (Bool) :=
  bif (decide (x1 ≤ x0)) then
    some (decide (x0 ≤ x2))
  else
    some false
noncomputable def C103 : Con := ⟨[(.B, false, [(.int .i64)]), (.B, false, [(.int .i64)]), (.B, false, [(.int .i64)])], [(false, [.bool])], [(.int .i64), (.int .i64), (.int .i64)], [.bool], fun (p : Int × Int × Int) => f_impl_from p.1 p.2.1 p.2.2⟩
noncomputable abbrev K103 : Cons := []
noncomputable abbrev L103 : List (Nat × Loops) := []
abbrev Q103 : List (Nat × List (Int × Nat) × Nat) := []
noncomputable abbrev X103 : Nat → Ctx := ctxOf tb K103 L103 Q103
theorem E103 : ∀ x, funRun fs X103 6 103 C103 x = C103.fn x := fun x => by kernel_rfl
theorem B103 : ConB Try.prog 103 C103 := ConB.make FS MIX TY (cons := K103) (L := L103) (ptrs := Q103) trivial trivial trivial rfl rfl E103
theorem S103 : ConS Try.prog 103 C103 := B103.call rfl
/-! impl.isWord: function 137 -/
noncomputable def f_impl_isWord (x0 : Int) : Option (Bool) :=
  (f_impl_from x0 0 65535).bind fun y240 =>
  some y240
noncomputable def C137 : Con := ⟨[(.B, false, [(.int .i64)])], [(false, [.bool])], [(.int .i64)], [.bool], fun (p : Int) => f_impl_isWord p⟩
noncomputable abbrev K137 : Cons := [(103, C103)]
noncomputable abbrev L137 : List (Nat × Loops) := []
abbrev Q137 : List (Nat × List (Int × Nat) × Nat) := []
noncomputable abbrev X137 : Nat → Ctx := ctxOf tb K137 L137 Q137
theorem E137 : ∀ x, funRun fs X137 6 137 C137 x = C137.fn x := fun x => by kernel_rfl
theorem B137 : ConB Try.prog 137 C137 := ConB.make FS MIX TY (cons := K137) (L := L137) (ptrs := Q137) ⟨S103, trivial⟩ trivial trivial rfl rfl E137
theorem S137 : ConS Try.prog 137 C137 := B137.call rfl
/-! impl.wordsOk$1: function 180 -/
noncomputable def f_impl_wordsOk_1 (x0 : Int) : Option (Bool) :=
  (f_impl_isWord x0).bind fun y241 =>
  some (!y241)
noncomputable def C180 : Con := ⟨[(.B, false, [(.int .i64)])], [(false, [.bool])], [(.int .i64)], [.bool], fun (p : Int) => f_impl_wordsOk_1 p⟩
noncomputable abbrev K180 : Cons := [(137, C137)]
noncomputable abbrev L180 : List (Nat × Loops) := []
abbrev Q180 : List (Nat × List (Int × Nat) × Nat) := []
noncomputable abbrev X180 : Nat → Ctx := ctxOf tb K180 L180 Q180
theorem E180 : ∀ x, funRun fs X180 6 180 C180 x = C180.fn x := fun x => by kernel_rfl
theorem B180 : ConB Try.prog 180 C180 := ConB.make FS MIX TY (cons := K180) (L := L180) (ptrs := Q180) ⟨S137, trivial⟩ trivial trivial rfl rfl E180
theorem S180 : ConS Try.prog 180 C180 := B180.call rfl
/-! impl.wordsOk: function 120 -/
noncomputable def f_impl_wordsOk.l0 : Nat → (List Int) → Int → Int → Int → Option ((Int) ⊕ (Int))
  | 0, _, _, _, _ => none
  | n + 1, p242, p243, p244, p245 =>
    bif (decide (p245 < p244)) then
      bif ((decide ((0 : Int) ≤ p245)) && (decide (p245 < (p242.length : Int)))) then
      (f_impl_wordsOk_1 (p242.getD p245.toNat 0)).bind fun y246 =>
      bif y246 then
        some (.inl p245)
      else
        f_impl_wordsOk.l0 n p242 p243 p244 (IntKind.wrap .i64 (p245 + (1 : Int)))
      else none
    else
      some (.inr p243)
noncomputable def f_impl_wordsOk (x0 : List Int) (x1 : Int) : Option (Bool) :=
  bif (decide ((x0.length : Int) = x1)) then
    (f_impl_wordsOk.l0 N x0 0 (x0.length : Int) 0).bind fun r247 =>
    cs r247 (fun a248 =>
      some (!(decide ((0 : Int) ≤ a248)))) (fun b249 =>
      some true)
  else
    some false
noncomputable def C120 : Con := ⟨[(.B, false, [(.sl R1)]), (.B, false, [(.int .i64)])], [(false, [.bool])], [(.sl R1), (.int .i64)], [.bool], fun (p : List Int × Int) => f_impl_wordsOk p.1 p.2⟩
noncomputable def f_impl_wordsOk.l0.c : LoopCon := ⟨1274, 4, [0, 1, 4, 7, 8], ⟨[(0, .bor none R1 []), (1, .func 180 []), (4, .int .i64 0), (7, .int .i64 0), (8, .int .i64 0)], [], 1274⟩, [(.sl R1), (.int .i64), (.int .i64), (.int .i64)], [⟨.ret, [4], ⟨[(4, .int .i64 0)], [], 1274⟩, [(.int .i64)]⟩, ⟨.exit 0, [4], ⟨[(4, .int .i64 0)], [], 1274⟩, [(.int .i64)]⟩], fun (p : List Int × Int × Int × Int) => f_impl_wordsOk.l0 N p.1 p.2.1 p.2.2.1 p.2.2.2⟩
noncomputable abbrev K120 : Cons := [(180, C180)]
noncomputable abbrev L120 : List (Nat × Loops) := [(207, [(2, f_impl_wordsOk.l0.c)])]
abbrev Q120 : List (Nat × List (Int × Nat) × Nat) := []
noncomputable abbrev X120 : Nat → Ctx := ctxOf tb K120 L120 Q120
theorem f_impl_wordsOk.l0.ok : ∀ n p, (fun (p : List Int × Int × Int × Int) => f_impl_wordsOk.l0 n p.1 p.2.1 p.2.2.1 p.2.2.2) p = iterD (roundOf fs X120 4 207 2 true f_impl_wordsOk.l0.c) n p :=
  iter_of (l := fun n => fun (p : List Int × Int × Int × Int) => f_impl_wordsOk.l0 n p.1 p.2.1 p.2.2.1 p.2.2.2) (fun _ => rfl) (fun n p => by kernel_rfl)
theorem E120 : ∀ x, funRun fs X120 6 120 C120 x = C120.fn x := fun x => by kernel_rfl
theorem B120 : ConB Try.prog 120 C120 := ConB.make FS MIX TY (cons := K120) (L := L120) (ptrs := Q120) ⟨S180, trivial⟩ trivial ⟨⟨⟨N, fun p => f_impl_wordsOk.l0.ok N p⟩, trivial⟩, trivial⟩ rfl rfl E120
theorem S120 : ConS Try.prog 120 C120 := B120.call rfl
/-! impl.isOf: function 142 -/
noncomputable def f_impl_isOf (x0 : Int) (x1 : Int) : Option (Bool) :=
  (f_impl_from x1 1 4).bind fun y250 =>
  bif y250 then
    (f_impl_from x0 0 (IntKind.wrap .i64 (x1 - (1 : Int)))).bind fun y251 =>
    some y251
  else
    some false
noncomputable def C142 : Con := ⟨[(.B, false, [(.int .i64)]), (.B, false, [(.int .i64)])], [(false, [.bool])], [(.int .i64), (.int .i64)], [.bool], fun (p : Int × Int) => f_impl_isOf p.1 p.2⟩
noncomputable abbrev K142 : Cons := [(103, C103)]
noncomputable abbrev L142 : List (Nat × Loops) := []
abbrev Q142 : List (Nat × List (Int × Nat) × Nat) := []
noncomputable abbrev X142 : Nat → Ctx := ctxOf tb K142 L142 Q142
theorem E142 : ∀ x, funRun fs X142 6 142 C142 x = C142.fn x := fun x => by kernel_rfl
theorem B142 : ConB Try.prog 142 C142 := ConB.make FS MIX TY (cons := K142) (L := L142) (ptrs := Q142) ⟨S103, trivial⟩ trivial trivial rfl rfl E142
theorem S142 : ConS Try.prog 142 C142 := B142.call rfl
/-! impl.HomeOk$1: function 169 -/
noncomputable def f_impl_HomeOk_1 (x0 : Int) (x1 : Bool) (x2 : Int) : Option (Bool) :=
  (f_impl_isOf x0 x2).bind fun y252 =>
  some (!y252)
noncomputable def C169 : Con := ⟨[(.B, true, [(.int .i64), .bool]), (.Q, false, [(.int .i64)])], [(false, [.bool])], [(.int .i64), .bool, (.int .i64)], [.bool], fun (p : Int × Bool × Int) => f_impl_HomeOk_1 p.1 p.2.1 p.2.2⟩
noncomputable abbrev K169 : Cons := [(142, C142)]
noncomputable abbrev L169 : List (Nat × Loops) := []
abbrev Q169 : List (Nat × List (Int × Nat) × Nat) := []
noncomputable abbrev X169 : Nat → Ctx := ctxOf tb K169 L169 Q169
theorem E169 : ∀ x, funG fs X169 6 169 C169 x = C169.fn x := fun x => by kernel_rfl
theorem B169 : ConG Try.prog 169 C169 := ConG.make FS MIX TY (cons := K169) (L := L169) (ptrs := Q169) ⟨S142, trivial⟩ trivial trivial rfl (by kernel_rfl) E169
theorem S169 : ConS Try.prog 169 C169 := B169.call (by kernel_rfl)
/-! impl.HomeOk: function 89 -/
noncomputable def f_impl_HomeOk.l0 : Nat → (List (Int × Bool)) → Int → Int → Int → (List Int) → Int → (List Bool) → Bool → Int → Bool → Int → (List (Int × Bool)) → Int → Option ((Int × List Int × Int × List Bool × Bool × Int × Bool × Int × (List (Int × Bool)) × Int) ⊕ (Int × List Int × Int × List Bool × Bool × Int × Bool × Int × (List (Int × Bool)) × Int))
  | 0, _, _, _, _, _, _, _, _, _, _, _, _, _ => none
  | n + 1, p258, p259, p260, p261, p262, p263, p264, p265, p266, p267, p268, p269, p270 =>
    bif (decide (p261 < p260)) then
      bif ((decide ((0 : Int) ≤ p261)) && (decide (p261 < (p258.length : Int)))) then
      (f_impl_HomeOk_1 ((p258.getD p261.toNat (0, false)).1) ((p258.getD p261.toNat (0, false)).2) p270).bind fun y271 =>
      bif y271 then
        some (.inl (p261, p262, p263, p264, p265, p266, p267, p268, p269, p270))
      else
        f_impl_HomeOk.l0 n p258 p259 p260 (IntKind.wrap .i64 (p261 + (1 : Int))) p262 p263 p264 p265 p266 p267 p268 p269 p270
      else none
    else
      some (.inr (p259, p262, p263, p264, p265, p266, p267, p268, p269, p270))
noncomputable def f_impl_HomeOk (x0 : List Int) (x1 : Int) (x2 : List Bool) (x3 : Bool) (x4 : Int) (x5 : Bool) (x6 : Int) (x7 : List (Int × Bool)) (x8 : Int) : Option (Bool) :=
  (f_impl_from x8 1 4).bind fun y253 =>
  bif y253 then
    (f_impl_wordsOk x0 4).bind fun y254 =>
    bif y254 then
      (f_impl_from x1 (-1) (IntKind.wrap .i64 (x8 - (1 : Int)))).bind fun y255 =>
      bif y255 then
        bif (decide ((x2.length : Int) = x8)) then
          (f_impl_isOf x4 x8).bind fun y256 =>
          bif y256 then
            (f_impl_from x6 0 x8).bind fun y257 =>
            bif y257 then
              bif (decide ((x7.length : Int) ≤ (12 : Int))) then
                (f_impl_HomeOk.l0 N x7 0 (x7.length : Int) 0 x0 x1 x2 x3 x4 x5 x6 x7 x8).bind fun r272 =>
                cs r272 (fun a273 =>
                  some (!(decide ((0 : Int) ≤ a273.1)))) (fun b274 =>
                  some true)
              else
                some false
            else
              some false
          else
            some false
        else
          some false
      else
        some false
    else
      some false
  else
    some false
noncomputable def C89 : Con := ⟨[(.B, true, [(.sl R1), (.int .i64), (.sl R2), .bool, (.int .i64), .bool, (.int .i64), (.sl R3)]), (.B, false, [(.int .i64)])], [(false, [.bool])], [(.sl R1), (.int .i64), (.sl R2), .bool, (.int .i64), .bool, (.int .i64), (.sl R3), (.int .i64)], [.bool], fun (p : List Int × Int × List Bool × Bool × Int × Bool × Int × (List (Int × Bool)) × Int) => f_impl_HomeOk p.1 p.2.1 p.2.2.1 p.2.2.2.1 p.2.2.2.2.1 p.2.2.2.2.2.1 p.2.2.2.2.2.2.1 p.2.2.2.2.2.2.2.1 p.2.2.2.2.2.2.2.2⟩
noncomputable def f_impl_HomeOk.l0.c : LoopCon := ⟨1921, 4, [0, 1, 4, 7, 8], ⟨[(0, .bor none R3 []), (1, .func 169 [.ptr 1025 0]), (4, .int .i64 0), (7, .int .i64 0), (8, .int .i64 0)], [(1009, .box [.bor (some 0) R1 [], .int .i64 0, .bor (some 2) R2 [], .bool false, .int .i64 0, .bool false, .int .i64 0, .bor (some 7) R3 []]), (1025, .box [.int .i64 0])], 1921⟩, [(.sl R3), (.int .i64), (.int .i64), (.int .i64), (.sl R1), (.int .i64), (.sl R2), .bool, (.int .i64), .bool, (.int .i64), (.sl R3), (.int .i64)], [⟨.ret, [4], ⟨[(4, .int .i64 0)], [(1009, .box [.bor (some 0) R1 [], .int .i64 0, .bor (some 2) R2 [], .bool false, .int .i64 0, .bool false, .int .i64 0, .bor (some 7) R3 []]), (1025, .box [.int .i64 0])], 1921⟩, [(.int .i64), (.sl R1), (.int .i64), (.sl R2), .bool, (.int .i64), .bool, (.int .i64), (.sl R3), (.int .i64)]⟩, ⟨.exit 0, [4], ⟨[(4, .int .i64 0)], [(1009, .box [.bor (some 0) R1 [], .int .i64 0, .bor (some 2) R2 [], .bool false, .int .i64 0, .bool false, .int .i64 0, .bor (some 7) R3 []]), (1025, .box [.int .i64 0])], 1921⟩, [(.int .i64), (.sl R1), (.int .i64), (.sl R2), .bool, (.int .i64), .bool, (.int .i64), (.sl R3), (.int .i64)]⟩], fun (p : (List (Int × Bool)) × Int × Int × Int × List Int × Int × List Bool × Bool × Int × Bool × Int × (List (Int × Bool)) × Int) => f_impl_HomeOk.l0 N p.1 p.2.1 p.2.2.1 p.2.2.2.1 p.2.2.2.2.1 p.2.2.2.2.2.1 p.2.2.2.2.2.2.1 p.2.2.2.2.2.2.2.1 p.2.2.2.2.2.2.2.2.1 p.2.2.2.2.2.2.2.2.2.1 p.2.2.2.2.2.2.2.2.2.2.1 p.2.2.2.2.2.2.2.2.2.2.2.1 p.2.2.2.2.2.2.2.2.2.2.2.2⟩
noncomputable abbrev K89 : Cons := [(103, C103), (120, C120), (142, C142), (169, C169)]
noncomputable abbrev L89 : List (Nat × Loops) := [(201, [(2, f_impl_HomeOk.l0.c)])]
abbrev Q89 : List (Nat × List (Int × Nat) × Nat) := []
noncomputable abbrev X89 : Nat → Ctx := ctxOf tb K89 L89 Q89
theorem f_impl_HomeOk.l0.ok : ∀ n p, (fun (p : (List (Int × Bool)) × Int × Int × Int × List Int × Int × List Bool × Bool × Int × Bool × Int × (List (Int × Bool)) × Int) => f_impl_HomeOk.l0 n p.1 p.2.1 p.2.2.1 p.2.2.2.1 p.2.2.2.2.1 p.2.2.2.2.2.1 p.2.2.2.2.2.2.1 p.2.2.2.2.2.2.2.1 p.2.2.2.2.2.2.2.2.1 p.2.2.2.2.2.2.2.2.2.1 p.2.2.2.2.2.2.2.2.2.2.1 p.2.2.2.2.2.2.2.2.2.2.2.1 p.2.2.2.2.2.2.2.2.2.2.2.2) p = iterD (roundOf fs X89 4 201 2 true f_impl_HomeOk.l0.c) n p :=
  iter_of (l := fun n => fun (p : (List (Int × Bool)) × Int × Int × Int × List Int × Int × List Bool × Bool × Int × Bool × Int × (List (Int × Bool)) × Int) => f_impl_HomeOk.l0 n p.1 p.2.1 p.2.2.1 p.2.2.2.1 p.2.2.2.2.1 p.2.2.2.2.2.1 p.2.2.2.2.2.2.1 p.2.2.2.2.2.2.2.1 p.2.2.2.2.2.2.2.2.1 p.2.2.2.2.2.2.2.2.2.1 p.2.2.2.2.2.2.2.2.2.2.1 p.2.2.2.2.2.2.2.2.2.2.2.1 p.2.2.2.2.2.2.2.2.2.2.2.2) (fun _ => rfl) (fun n p => by kernel_rfl)
theorem E89 : ∀ x, funRun fs X89 6 89 C89 x = C89.fn x := fun x => by kernel_rfl
theorem B89 : ConB Try.prog 89 C89 := ConB.make FS MIX TY (cons := K89) (L := L89) (ptrs := Q89) ⟨S103, S120, S142, S169, trivial⟩ trivial ⟨⟨⟨N, fun p => f_impl_HomeOk.l0.ok N p⟩, trivial⟩, trivial⟩ rfl rfl E89
theorem S89 : ConS Try.prog 89 C89 := B89.call rfl
/-! impl.isPage: function 119 -/
noncomputable def f_impl_isPage (x0 : Int) : Option (Bool) :=
  (f_impl_from x0 0 5).bind fun y275 =>
  some y275
noncomputable def C119 : Con := ⟨[(.B, false, [(.int .i64)])], [(false, [.bool])], [(.int .i64)], [.bool], fun (p : Int) => f_impl_isPage p⟩
noncomputable abbrev K119 : Cons := [(103, C103)]
noncomputable abbrev L119 : List (Nat × Loops) := []
abbrev Q119 : List (Nat × List (Int × Nat) × Nat) := []
noncomputable abbrev X119 : Nat → Ctx := ctxOf tb K119 L119 Q119
theorem E119 : ∀ x, funRun fs X119 6 119 C119 x = C119.fn x := fun x => by kernel_rfl
theorem B119 : ConB Try.prog 119 C119 := ConB.make FS MIX TY (cons := K119) (L := L119) (ptrs := Q119) ⟨S103, trivial⟩ trivial trivial rfl rfl E119
theorem S119 : ConS Try.prog 119 C119 := B119.call rfl
/-! impl.MsgOk: function 37 -/
noncomputable def f_impl_MsgOk (x0 : Int) (x1 : Int) (x2 : Bool) (x3 : List Int) : Option (Bool) :=
  (f_impl_from x0 1 7).bind fun y276 =>
  bif (!y276) then
    some false
  else
    (f_impl_isPage x1).bind fun y277 =>
    bif (!y277) then
      some false
    else
      bif x2 then
        bif (!(decide (x0 = (3 : Int)))) then
          bif (!(decide (x0 = (6 : Int)))) then
            some false
          else
            bif (decide (x0 = (3 : Int))) then
              (f_impl_wordsOk x3 4).bind fun y278 =>
              some y278
            else
              bif (decide (x0 = (7 : Int))) then
                (f_impl_wordsOk x3 4).bind fun y279 =>
                some y279
              else
                some (decide ((x3.length : Int) = (0 : Int)))
        else
          bif (decide (x0 = (3 : Int))) then
            (f_impl_wordsOk x3 4).bind fun y280 =>
            some y280
          else
            bif (decide (x0 = (7 : Int))) then
              (f_impl_wordsOk x3 4).bind fun y281 =>
              some y281
            else
              some (decide ((x3.length : Int) = (0 : Int)))
      else
        bif (decide (x0 = (3 : Int))) then
          (f_impl_wordsOk x3 4).bind fun y282 =>
          some y282
        else
          bif (decide (x0 = (7 : Int))) then
            (f_impl_wordsOk x3 4).bind fun y283 =>
            some y283
          else
            some (decide ((x3.length : Int) = (0 : Int)))
noncomputable def C37 : Con := ⟨[(.B, true, [(.int .i64), (.int .i64), .bool, (.sl R1)])], [(false, [.bool])], [(.int .i64), (.int .i64), .bool, (.sl R1)], [.bool], fun (p : Int × Int × Bool × List Int) => f_impl_MsgOk p.1 p.2.1 p.2.2.1 p.2.2.2⟩
noncomputable abbrev K37 : Cons := [(103, C103), (119, C119), (120, C120)]
noncomputable abbrev L37 : List (Nat × Loops) := []
abbrev Q37 : List (Nat × List (Int × Nat) × Nat) := []
noncomputable abbrev X37 : Nat → Ctx := ctxOf tb K37 L37 Q37
theorem E37 : ∀ x, funRun fs X37 6 37 C37 x = C37.fn x := fun x => by kernel_rfl
theorem B37 : ConB Try.prog 37 C37 := ConB.make FS MIX TY (cons := K37) (L := L37) (ptrs := Q37) ⟨S103, S119, S120, trivial⟩ trivial trivial rfl rfl E37
theorem S37 : ConS Try.prog 37 C37 := B37.call rfl
/-! slices.Clone[[]int,int]: function 100 -/
noncomputable def f_slices_Clone_int_int (x0 : List Int) : Option (List Int) := bif Nat.blt (0 + x0.length) 17592186044416 then some x0 else none
noncomputable def C100 : Con := ⟨[(.B, false, [(.sl R1)])], [(false, [(.sl R1)])], [(.sl R1)], [(.sl R1)], f_slices_Clone_int_int⟩
noncomputable abbrev X100 : Nat → Ctx := ctxOf tb [] [] []
theorem E100 : ∀ x : List R1.den, bodyRun fs X100 6 100 C100 [] [] [.bor (some 1000) R1 x] [] = f_slices_Clone_int_int x := fun x => by kernel_rfl
theorem Z100 : bodyRun fs X100 6 100 C100 [] [] [.nil (some R1)] [] = f_slices_Clone_int_int ([] : List R1.den) := by kernel_rfl
theorem B100 : ConB Try.prog 100 C100 := ConB.copy FS MIX TY (cons := []) (L := []) (ptrs := []) trivial trivial trivial rfl E100 Z100
theorem S100 : ConS Try.prog 100 C100 := B100.call rfl
/-! slices.Clone[[]bool,bool]: function 197 -/
noncomputable def f_slices_Clone_bool_bool (x0 : List Bool) : Option (List Bool) := bif Nat.blt (0 + x0.length) 140737488355328 then some x0 else none
noncomputable def C197 : Con := ⟨[(.B, false, [(.sl R2)])], [(false, [(.sl R2)])], [(.sl R2)], [(.sl R2)], f_slices_Clone_bool_bool⟩
noncomputable abbrev X197 : Nat → Ctx := ctxOf tb [] [] []
theorem E197 : ∀ x : List R2.den, bodyRun fs X197 6 197 C197 [] [] [.bor (some 1000) R2 x] [] = f_slices_Clone_bool_bool x := fun x => by kernel_rfl
theorem Z197 : bodyRun fs X197 6 197 C197 [] [] [.nil (some R2)] [] = f_slices_Clone_bool_bool ([] : List R2.den) := by kernel_rfl
theorem B197 : ConB Try.prog 197 C197 := ConB.copy FS MIX TY (cons := []) (L := []) (ptrs := []) trivial trivial trivial rfl E197 Z197
theorem S197 : ConS Try.prog 197 C197 := B197.call rfl
/-! slices.Clone[[]loop.example/g00281/impl.Wait,loop.example/g00281/impl.Wait]: function 198 -/
noncomputable def f_slices_Clone_impl_Wait_impl_Wait (x0 : List (Int × Bool)) : Option (List (Int × Bool)) := bif Nat.blt (0 + x0.length) 8796093022208 then some x0 else none
noncomputable def C198 : Con := ⟨[(.B, false, [(.sl R3)])], [(false, [(.sl R3)])], [(.sl R3)], [(.sl R3)], f_slices_Clone_impl_Wait_impl_Wait⟩
noncomputable abbrev X198 : Nat → Ctx := ctxOf tb [] [] []
theorem E198 : ∀ x : List R3.den, bodyRun fs X198 6 198 C198 [] [] [.bor (some 1000) R3 x] [] = f_slices_Clone_impl_Wait_impl_Wait x := fun x => by kernel_rfl
theorem Z198 : bodyRun fs X198 6 198 C198 [] [] [.nil (some R3)] [] = f_slices_Clone_impl_Wait_impl_Wait ([] : List R3.den) := by kernel_rfl
theorem B198 : ConB Try.prog 198 C198 := ConB.copy FS MIX TY (cons := []) (L := []) (ptrs := []) trivial trivial trivial rfl E198 Z198
theorem S198 : ConS Try.prog 198 C198 := B198.call rfl
/-! impl.copyHome: function 162 -/
noncomputable def f_impl_copyHome (x0 : List Int) (x1 : Int) (x2 : List Bool) (x3 : Bool) (x4 : Int) (x5 : Bool) (x6 : Int) (x7 : List (Int × Bool)) : Option (List Int × Int × List Bool × Bool × Int × Bool × Int × (List (Int × Bool))) :=
  (f_slices_Clone_int_int x0).bind fun y284 =>
  (f_slices_Clone_bool_bool x2).bind fun y285 =>
  (f_slices_Clone_impl_Wait_impl_Wait x7).bind fun y286 =>
  some (y284, x1, y285, x3, x4, x5, x6, y286)
noncomputable def C162 : Con := ⟨[(.B, true, [(.sl R1), (.int .i64), (.sl R2), .bool, (.int .i64), .bool, (.int .i64), (.sl R3)])], [(true, [(.sl R1), (.int .i64), (.sl R2), .bool, (.int .i64), .bool, (.int .i64), (.sl R3)])], [(.sl R1), (.int .i64), (.sl R2), .bool, (.int .i64), .bool, (.int .i64), (.sl R3)], [(.sl R1), (.int .i64), (.sl R2), .bool, (.int .i64), .bool, (.int .i64), (.sl R3)], fun (p : List Int × Int × List Bool × Bool × Int × Bool × Int × (List (Int × Bool))) => f_impl_copyHome p.1 p.2.1 p.2.2.1 p.2.2.2.1 p.2.2.2.2.1 p.2.2.2.2.2.1 p.2.2.2.2.2.2.1 p.2.2.2.2.2.2.2⟩
noncomputable abbrev K162 : Cons := [(100, C100), (197, C197), (198, C198)]
noncomputable abbrev L162 : List (Nat × Loops) := []
abbrev Q162 : List (Nat × List (Int × Nat) × Nat) := []
noncomputable abbrev X162 : Nat → Ctx := ctxOf tb K162 L162 Q162
theorem E162 : ∀ x, funRun fs X162 6 162 C162 x = C162.fn x := fun x => by kernel_rfl
theorem B162 : ConB Try.prog 162 C162 := ConB.make FS MIX TY (cons := K162) (L := L162) (ptrs := Q162) ⟨S100, S197, S198, trivial⟩ trivial trivial rfl rfl E162
theorem S162 : ConS Try.prog 162 C162 := B162.call rfl
/-! impl.keeper).give: function 163 -/
noncomputable def f_impl_keeper_give (x0 : List Int) (x1 : Int) (x2 : List Bool) (x3 : Bool) (x4 : Int) (x5 : Bool) (x6 : Int) (x7 : List (Int × Bool)) (x8 : Int) (x9 : List (Int × Int × Int × Bool × List Int)) : Option (List Int × Int × List Bool × Bool × Int × Bool × Int × (List (Int × Bool)) × Int × (List (Int × Int × Int × Bool × List Int))) :=
  (f_slices_Clone_int_int x0).bind fun y287 =>
  bif (Nat.blt (x9.length + ([(x4, 3, x8, x5, y287)] : List (Int × Int × Int × Bool × List Int)).length) 2513169434916) then
  (some ((x9 ++ ([(x4, 3, x8, x5, y287)] : List (Int × Int × Int × Bool × List Int))) : List (Int × Int × Int × Bool × List Int))).bind fun z288 =>
  bif ((decide ((0 : Int) ≤ x4)) && (decide (x4 < (x2.length : Int)))) then
  (some ((x2.set x4.toNat (!x5)) : List Bool)).bind fun z289 =>
  bif x5 then
    some (x0, x4, z289, false, 0, false, x6, x7, x8, z288)
  else
    some (x0, x1, z289, false, 0, false, x6, x7, x8, z288)
  else none
  else none
noncomputable def C163 : Con := ⟨[(.P [true, true, true, true, true, true, true, true, true, true], false, [(.sl R1), (.int .i64), (.sl R2), .bool, (.int .i64), .bool, (.int .i64), (.sl R3), (.int .i64), (.sl R4)])], [], [(.sl R1), (.int .i64), (.sl R2), .bool, (.int .i64), .bool, (.int .i64), (.sl R3), (.int .i64), (.sl R4)], [(.sl R1), (.int .i64), (.sl R2), .bool, (.int .i64), .bool, (.int .i64), (.sl R3), (.int .i64), (.sl R4)], fun (p : List Int × Int × List Bool × Bool × Int × Bool × Int × (List (Int × Bool)) × Int × (List (Int × Int × Int × Bool × List Int))) => f_impl_keeper_give p.1 p.2.1 p.2.2.1 p.2.2.2.1 p.2.2.2.2.1 p.2.2.2.2.2.1 p.2.2.2.2.2.2.1 p.2.2.2.2.2.2.2.1 p.2.2.2.2.2.2.2.2.1 p.2.2.2.2.2.2.2.2.2⟩
noncomputable abbrev K163 : Cons := [(100, C100)]
noncomputable abbrev L163 : List (Nat × Loops) := []
abbrev Q163 : List (Nat × List (Int × Nat) × Nat) := []
noncomputable abbrev X163 : Nat → Ctx := ctxOf tb K163 L163 Q163
theorem E163 : ∀ x, funG fs X163 6 163 C163 x = C163.fn x := fun x => by kernel_rfl
theorem B163 : ConG Try.prog 163 C163 := ConG.make FS MIX TY (cons := K163) (L := L163) (ptrs := Q163) ⟨S100, trivial⟩ trivial trivial rfl (by kernel_rfl) E163
theorem S163 : ConS Try.prog 163 C163 := B163.call (by kernel_rfl)
/-! impl.keeper).begin: function 164 -/
noncomputable def f_impl_keeper_begin.l0 : Nat → Int → Int → Int → Bool → Int → Bool → Int → Int → Int → Int → (List Bool) → (List Int) → (List (Int × Bool)) → (List (Int × Int × Int × Bool × List Int)) → Option (Int × Bool × Int × Bool × Int × Int × Int × Int × List Int × List Bool × (List (Int × Bool)) × (List (Int × Int × Int × Bool × List Int)))
  | 0, _, _, _, _, _, _, _, _, _, _, _, _, _, _ => none
  | n + 1, p291, p292, p293, p294, p295, p296, p297, p298, p299, p300, p301, p302, p303, p304 =>
    bif (decide (p292 < p291)) then
      bif ((decide ((0 : Int) ≤ p292)) && (decide (p292 < (p301.length : Int)))) then
      bif p296 then
        bif (p301.getD p292.toNat false) then
          bif (!(decide (p292 = p295))) then
            bif (Nat.blt (p304.length + ([(p292, 4, p300, false, [])] : List (Int × Int × Int × Bool × List Int)).length) 2513169434916) then
            (some ((p304 ++ ([(p292, 4, p300, false, [])] : List (Int × Int × Int × Bool × List Int))) : List (Int × Int × Int × Bool × List Int))).bind fun z305 =>
            bif ((decide ((0 : Int) ≤ p292)) && (decide (p292 < (p301.length : Int)))) then
            (some ((p301.set p292.toNat false) : List Bool)).bind fun z306 =>
            f_impl_keeper_begin.l0 n p291 (IntKind.wrap .i64 (p292 + (1 : Int))) p293 p294 p295 p296 (IntKind.wrap .i64 (p297 + (1 : Int))) p298 p299 p300 z306 p302 p303 z305
            else none
            else none
          else
            f_impl_keeper_begin.l0 n p291 (IntKind.wrap .i64 (p292 + (1 : Int))) p293 p294 p295 p296 p297 p298 p299 p300 p301 p302 p303 p304
        else
          f_impl_keeper_begin.l0 n p291 (IntKind.wrap .i64 (p292 + (1 : Int))) p293 p294 p295 p296 p297 p298 p299 p300 p301 p302 p303 p304
      else
        f_impl_keeper_begin.l0 n p291 (IntKind.wrap .i64 (p292 + (1 : Int))) p293 p294 p295 p296 p297 p298 p299 p300 p301 p302 p303 p304
      else none
    else
      some (p293, p294, p295, p296, p297, p298, p299, p300, p302, p301, p303, p304)
noncomputable def f_impl_keeper_begin (x0 : List Int) (x1 : Int) (x2 : List Bool) (x3 : Bool) (x4 : Int) (x5 : Bool) (x6 : Int) (x7 : List (Int × Bool)) (x8 : Int) (x9 : List (Int × Int × Int × Bool × List Int)) : Option (List Int × Int × List Bool × Bool × Int × Bool × Int × (List (Int × Bool)) × Int × (List (Int × Int × Int × Bool × List Int))) :=
  bif (decide ((0 : Int) < (x7.length : Int))) then
  bif (decide ((1 : Int) ≤ (x7.length : Int))) then
  bif (decide ((0 : Int) ≤ x1)) then
    bif (Nat.blt (x9.length + ([(x1, 6, x8, (x7.getD 0 (0, false)).2, [])] : List (Int × Int × Int × Bool × List Int)).length) 2513169434916) then
    (some ((x9 ++ ([(x1, 6, x8, (x7.getD 0 (0, false)).2, [])] : List (Int × Int × Int × Bool × List Int))) : List (Int × Int × Int × Bool × List Int))).bind fun z290 =>
    some (x0, x1, x2, true, (x7.getD 0 (0, false)).1, (x7.getD 0 (0, false)).2, x6, ((x7.drop 1).take ((x7.length : Int) - (1 : Int)).toNat), x8, z290)
    else none
  else
    (f_impl_keeper_begin.l0 N (x2.length : Int) 0 x1 true ((x7.getD 0 (0, false)).1) ((x7.getD 0 (0, false)).2) 0 1 ((x7.length : Int) - (1 : Int)) x8 x2 x0 x7 x9).bind fun r307 =>
    bif (decide (r307.2.2.2.2.1 = (0 : Int))) then
      (f_impl_keeper_give r307.2.2.2.2.2.2.2.2.1 r307.1 r307.2.2.2.2.2.2.2.2.2.1 r307.2.1 r307.2.2.1 r307.2.2.2.1 r307.2.2.2.2.1 ((r307.2.2.2.2.2.2.2.2.2.2.1.drop r307.2.2.2.2.2.1.toNat).take r307.2.2.2.2.2.2.1.toNat) r307.2.2.2.2.2.2.2.1 r307.2.2.2.2.2.2.2.2.2.2.2).bind fun y308 =>
      some (y308.1, y308.2.1, y308.2.2.1, y308.2.2.2.1, y308.2.2.2.2.1, y308.2.2.2.2.2.1, y308.2.2.2.2.2.2.1, y308.2.2.2.2.2.2.2.1, y308.2.2.2.2.2.2.2.2.1, y308.2.2.2.2.2.2.2.2.2)
    else
      some (r307.2.2.2.2.2.2.2.2.1, r307.1, r307.2.2.2.2.2.2.2.2.2.1, r307.2.1, r307.2.2.1, r307.2.2.2.1, r307.2.2.2.2.1, ((r307.2.2.2.2.2.2.2.2.2.2.1.drop r307.2.2.2.2.2.1.toNat).take r307.2.2.2.2.2.2.1.toNat), r307.2.2.2.2.2.2.2.1, r307.2.2.2.2.2.2.2.2.2.2.2)
  else none
  else none
noncomputable def C164 : Con := ⟨[(.P [true, true, true, true, true, true, true, true, true, true], false, [(.sl R1), (.int .i64), (.sl R2), .bool, (.int .i64), .bool, (.int .i64), (.sl R3), (.int .i64), (.sl R4)])], [], [(.sl R1), (.int .i64), (.sl R2), .bool, (.int .i64), .bool, (.int .i64), (.sl R3), (.int .i64), (.sl R4)], [(.sl R1), (.int .i64), (.sl R2), .bool, (.int .i64), .bool, (.int .i64), (.sl R3), (.int .i64), (.sl R4)], fun (p : List Int × Int × List Bool × Bool × Int × Bool × Int × (List (Int × Bool)) × Int × (List (Int × Int × Int × Bool × List Int))) => f_impl_keeper_begin p.1 p.2.1 p.2.2.1 p.2.2.2.1 p.2.2.2.2.1 p.2.2.2.2.2.1 p.2.2.2.2.2.2.1 p.2.2.2.2.2.2.2.1 p.2.2.2.2.2.2.2.2.1 p.2.2.2.2.2.2.2.2.2⟩
noncomputable def f_impl_keeper_begin.l0.c : LoopCon := ⟨1000, 6, [0, 69, 70, 71], ⟨[(0, .ptr 500 0), (69, .ref 1000 [] none), (70, .int .i64 0), (71, .int .i64 0)], [(500, .box [.ref 1001 [] none, .int .i64 0, .ref 1000 [] none, .bool false, .int .i64 0, .bool false, .int .i64 0, .ref 1002 [] (some (0, 0)), .int .i64 0, .ref 1003 [] none]), (1000, .row R2 []), (1001, .row R1 []), (1002, .row R3 []), (1003, .row R4 [])], 1004⟩, [(.int .i64), (.int .i64), (.int .i64), .bool, (.int .i64), .bool, (.int .i64), (.int .i64), (.int .i64), (.int .i64), (.sl R2), (.sl R1), (.sl R3), (.sl R4)], [⟨.exit 0, [0], ⟨[(0, .ptr 500 0)], [(500, .box [.ref 1000 [] none, .int .i64 0, .ref 1001 [] none, .bool false, .int .i64 0, .bool false, .int .i64 0, .ref 1002 [] (some (0, 0)), .int .i64 0, .ref 1003 [] none]), (1000, .row R1 []), (1001, .row R2 []), (1002, .row R3 []), (1003, .row R4 [])], 1004⟩, [(.int .i64), .bool, (.int .i64), .bool, (.int .i64), (.int .i64), (.int .i64), (.int .i64), (.sl R1), (.sl R2), (.sl R3), (.sl R4)]⟩], fun (p : Int × Int × Int × Bool × Int × Bool × Int × Int × Int × Int × List Bool × List Int × (List (Int × Bool)) × (List (Int × Int × Int × Bool × List Int))) => f_impl_keeper_begin.l0 N p.1 p.2.1 p.2.2.1 p.2.2.2.1 p.2.2.2.2.1 p.2.2.2.2.2.1 p.2.2.2.2.2.2.1 p.2.2.2.2.2.2.2.1 p.2.2.2.2.2.2.2.2.1 p.2.2.2.2.2.2.2.2.2.1 p.2.2.2.2.2.2.2.2.2.2.1 p.2.2.2.2.2.2.2.2.2.2.2.1 p.2.2.2.2.2.2.2.2.2.2.2.2.1 p.2.2.2.2.2.2.2.2.2.2.2.2.2⟩
noncomputable abbrev K164 : Cons := [(163, C163)]
noncomputable abbrev L164 : List (Nat × Loops) := [(164, [(7, f_impl_keeper_begin.l0.c)])]
abbrev Q164 : List (Nat × List (Int × Nat) × Nat) := []
noncomputable abbrev X164 : Nat → Ctx := ctxOf tb K164 L164 Q164
theorem f_impl_keeper_begin.l0.ok : ∀ n p, (fun (p : Int × Int × Int × Bool × Int × Bool × Int × Int × Int × Int × List Bool × List Int × (List (Int × Bool)) × (List (Int × Int × Int × Bool × List Int))) => f_impl_keeper_begin.l0 n p.1 p.2.1 p.2.2.1 p.2.2.2.1 p.2.2.2.2.1 p.2.2.2.2.2.1 p.2.2.2.2.2.2.1 p.2.2.2.2.2.2.2.1 p.2.2.2.2.2.2.2.2.1 p.2.2.2.2.2.2.2.2.2.1 p.2.2.2.2.2.2.2.2.2.2.1 p.2.2.2.2.2.2.2.2.2.2.2.1 p.2.2.2.2.2.2.2.2.2.2.2.2.1 p.2.2.2.2.2.2.2.2.2.2.2.2.2) p = iterD (roundOf fs X164 6 164 7 false f_impl_keeper_begin.l0.c) n p :=
  iter_of (l := fun n => fun (p : Int × Int × Int × Bool × Int × Bool × Int × Int × Int × Int × List Bool × List Int × (List (Int × Bool)) × (List (Int × Int × Int × Bool × List Int))) => f_impl_keeper_begin.l0 n p.1 p.2.1 p.2.2.1 p.2.2.2.1 p.2.2.2.2.1 p.2.2.2.2.2.1 p.2.2.2.2.2.2.1 p.2.2.2.2.2.2.2.1 p.2.2.2.2.2.2.2.2.1 p.2.2.2.2.2.2.2.2.2.1 p.2.2.2.2.2.2.2.2.2.2.1 p.2.2.2.2.2.2.2.2.2.2.2.1 p.2.2.2.2.2.2.2.2.2.2.2.2.1 p.2.2.2.2.2.2.2.2.2.2.2.2.2) (fun _ => rfl) (fun n p => by kernel_rfl)
theorem E164 : ∀ x, funG fs X164 6 164 C164 x = C164.fn x := fun x => by kernel_rfl
theorem B164 : ConG Try.prog 164 C164 := ConG.make FS MIX TY (cons := K164) (L := L164) (ptrs := Q164) ⟨S163, trivial⟩ trivial ⟨⟨⟨N, fun p => f_impl_keeper_begin.l0.ok N p⟩, trivial⟩, trivial⟩ rfl (by kernel_rfl) E164
theorem S164 : ConS Try.prog 164 C164 := B164.call (by kernel_rfl)
/-! impl.HomeHear: function 86 -/
noncomputable def f_impl_HomeHear.l1 : Nat → Int → Bool → Int → Bool → Int → Int → Bool → Int → Bool → Int → Int → (List Int) → (List Bool) → (List (Int × Bool)) → (List Int) → (List Bool) → (List (Int × Bool)) → (List (Int × Int × Int × Bool × List Int)) → Option (Int × Bool × Int × Bool × Int × Int × Bool × Int × Bool × Int × Int × List Int × List Bool × (List (Int × Bool)) × List Int × List Bool × (List (Int × Bool)) × (List (Int × Int × Int × Bool × List Int)))
  | 0, _, _, _, _, _, _, _, _, _, _, _, _, _, _, _, _, _, _ => none
  | n + 1, p691, p692, p693, p694, p695, p696, p697, p698, p699, p700, p701, p702, p703, p704, p705, p706, p707, p708 =>
    bif (!p697) then
      bif (decide ((0 : Int) < (p707.length : Int))) then
        (f_impl_keeper_begin p705 p696 p706 p697 p698 p699 p700 p707 p701 p708).bind fun y734 =>
        f_impl_HomeHear.l1 n p691 p692 p693 p694 p695 y734.2.1 y734.2.2.2.1 y734.2.2.2.2.1 y734.2.2.2.2.2.1 y734.2.2.2.2.2.2.1 y734.2.2.2.2.2.2.2.2.1 p702 p703 p704 y734.1 y734.2.2.1 y734.2.2.2.2.2.2.2.1 y734.2.2.2.2.2.2.2.2.2
      else
        some (p691, p692, p693, p694, p695, p696, p697, p698, p699, p700, p701, p702, p703, p704, p705, p706, p707, p708)
    else
      some (p691, p692, p693, p694, p695, p696, p697, p698, p699, p700, p701, p702, p703, p704, p705, p706, p707, p708)
noncomputable def f_impl_HomeHear.j0 (p417 : Int) (p418 : Bool) (p419 : List Int) (p420 : Int) (p421 : List Bool) (p422 : Bool) (p423 : Int) (p424 : Bool) (p425 : Int) (p426 : List (Int × Bool)) (p427 : Int) (p428 : Int) (p429 : Bool) (p430 : List Int) (p431 : Int) (p432 : Bool) (p433 : Int) (p434 : Bool) (p435 : Int) (p436 : Int) (p437 : Bool) (p438 : Int) (p439 : Bool) (p440 : Int) (p441 : Int) (p442 : List Int) (p443 : List Bool) (p444 : List (Int × Bool)) (p445 : List Int) (p446 : List Bool) (p447 : List (Int × Bool)) (p448 : List (Int × Int × Int × Bool × List Int)) : Option ((Int × Bool × Int × Bool × Int × Int × Bool × Int × Bool × Int × Int × List Int × List Bool × (List (Int × Bool)) × List Int × List Bool × (List (Int × Bool)) × (List (Int × Int × Int × Bool × List Int))) ⊕ (Int × Bool × Int × Bool × Int × List Int × List Bool × (List (Int × Bool)))) :=
    bif p418 then
      bif (Nat.blt (p447.length + ([(p417, (decide (p427 = (2 : Int))))] : List (Int × Bool)).length) 8796093022208) then
      (some ((p447 ++ ([(p417, (decide (p427 = (2 : Int))))] : List (Int × Bool))) : List (Int × Bool))).bind fun z449 =>
      some (.inl (p431, p432, p433, p434, p435, p436, p437, p438, p439, p440, p441, p442, p443, p444, p445, p446, z449, p448))
      else none
    else
      bif (decide (p427 = (5 : Int))) then
        bif p437 then
          bif (decide ((0 : Int) < p440)) then
            bif (decide ((IntKind.wrap .i64 (p440 - (1 : Int))) = (0 : Int))) then
              (f_impl_keeper_give p445 p436 p446 p437 p438 p439 (IntKind.wrap .i64 (p440 - (1 : Int))) p447 p441 p448).bind fun y645 =>
              some (.inl (p431, p432, p433, p434, p435, y645.2.1, y645.2.2.2.1, y645.2.2.2.2.1, y645.2.2.2.2.2.1, y645.2.2.2.2.2.2.1, y645.2.2.2.2.2.2.2.2.1, p442, p443, p444, y645.1, y645.2.2.1, y645.2.2.2.2.2.2.2.1, y645.2.2.2.2.2.2.2.2.2))
            else
              some (.inl (p431, p432, p433, p434, p435, p436, p437, p438, p439, (IntKind.wrap .i64 (p440 - (1 : Int))), p441, p442, p443, p444, p445, p446, p447, p448))
          else
            bif (decide (p427 = (7 : Int))) then
              bif p437 then
                bif (decide (p417 = p436)) then
                  bif (decide (p440 = (0 : Int))) then
                    (f_slices_Clone_int_int p430).bind fun y646 =>
                    bif (!p439) then
                      bif ((decide ((0 : Int) ≤ p436)) && (decide (p436 < (p446.length : Int)))) then
                      (some ((p446.set p436.toNat true) : List Bool)).bind fun z647 =>
                      (f_impl_keeper_give y646 (-1) z647 p437 p438 p439 p440 p447 p441 p448).bind fun y648 =>
                      some (.inl (p431, p432, p433, p434, p435, y648.2.1, y648.2.2.2.1, y648.2.2.2.2.1, y648.2.2.2.2.2.1, y648.2.2.2.2.2.2.1, y648.2.2.2.2.2.2.2.2.1, p442, p443, p444, y648.1, y648.2.2.1, y648.2.2.2.2.2.2.2.1, y648.2.2.2.2.2.2.2.2.2))
                      else none
                    else
                      (f_impl_keeper_give y646 (-1) p446 p437 p438 p439 p440 p447 p441 p448).bind fun y649 =>
                      some (.inl (p431, p432, p433, p434, p435, y649.2.1, y649.2.2.2.1, y649.2.2.2.2.1, y649.2.2.2.2.2.1, y649.2.2.2.2.2.2.1, y649.2.2.2.2.2.2.2.2.1, p442, p443, p444, y649.1, y649.2.2.1, y649.2.2.2.2.2.2.2.1, y649.2.2.2.2.2.2.2.2.2))
                  else
                    (f_impl_copyHome p419 p420 p421 p422 p423 p424 p425 p426).bind fun y650 =>
                    some (.inr (y650.2.1, y650.2.2.2.1, y650.2.2.2.2.1, y650.2.2.2.2.2.1, y650.2.2.2.2.2.2.1, y650.1, y650.2.2.1, y650.2.2.2.2.2.2.2))
                else
                  (f_impl_copyHome p419 p420 p421 p422 p423 p424 p425 p426).bind fun y651 =>
                  some (.inr (y651.2.1, y651.2.2.2.1, y651.2.2.2.2.1, y651.2.2.2.2.2.1, y651.2.2.2.2.2.2.1, y651.1, y651.2.2.1, y651.2.2.2.2.2.2.2))
              else
                (f_impl_copyHome p419 p420 p421 p422 p423 p424 p425 p426).bind fun y652 =>
                some (.inr (y652.2.1, y652.2.2.2.1, y652.2.2.2.2.1, y652.2.2.2.2.2.1, y652.2.2.2.2.2.2.1, y652.1, y652.2.2.1, y652.2.2.2.2.2.2.2))
            else
              (f_impl_copyHome p419 p420 p421 p422 p423 p424 p425 p426).bind fun y653 =>
              some (.inr (y653.2.1, y653.2.2.2.1, y653.2.2.2.2.1, y653.2.2.2.2.2.1, y653.2.2.2.2.2.2.1, y653.1, y653.2.2.1, y653.2.2.2.2.2.2.2))
        else
          bif (decide (p427 = (7 : Int))) then
            bif p437 then
              bif (decide (p417 = p436)) then
                bif (decide (p440 = (0 : Int))) then
                  (f_slices_Clone_int_int p430).bind fun y654 =>
                  bif (!p439) then
                    bif ((decide ((0 : Int) ≤ p436)) && (decide (p436 < (p446.length : Int)))) then
                    (some ((p446.set p436.toNat true) : List Bool)).bind fun z655 =>
                    (f_impl_keeper_give y654 (-1) z655 p437 p438 p439 p440 p447 p441 p448).bind fun y656 =>
                    some (.inl (p431, p432, p433, p434, p435, y656.2.1, y656.2.2.2.1, y656.2.2.2.2.1, y656.2.2.2.2.2.1, y656.2.2.2.2.2.2.1, y656.2.2.2.2.2.2.2.2.1, p442, p443, p444, y656.1, y656.2.2.1, y656.2.2.2.2.2.2.2.1, y656.2.2.2.2.2.2.2.2.2))
                    else none
                  else
                    (f_impl_keeper_give y654 (-1) p446 p437 p438 p439 p440 p447 p441 p448).bind fun y657 =>
                    some (.inl (p431, p432, p433, p434, p435, y657.2.1, y657.2.2.2.1, y657.2.2.2.2.1, y657.2.2.2.2.2.1, y657.2.2.2.2.2.2.1, y657.2.2.2.2.2.2.2.2.1, p442, p443, p444, y657.1, y657.2.2.1, y657.2.2.2.2.2.2.2.1, y657.2.2.2.2.2.2.2.2.2))
                else
                  (f_impl_copyHome p419 p420 p421 p422 p423 p424 p425 p426).bind fun y658 =>
                  some (.inr (y658.2.1, y658.2.2.2.1, y658.2.2.2.2.1, y658.2.2.2.2.2.1, y658.2.2.2.2.2.2.1, y658.1, y658.2.2.1, y658.2.2.2.2.2.2.2))
              else
                (f_impl_copyHome p419 p420 p421 p422 p423 p424 p425 p426).bind fun y659 =>
                some (.inr (y659.2.1, y659.2.2.2.1, y659.2.2.2.2.1, y659.2.2.2.2.2.1, y659.2.2.2.2.2.2.1, y659.1, y659.2.2.1, y659.2.2.2.2.2.2.2))
            else
              (f_impl_copyHome p419 p420 p421 p422 p423 p424 p425 p426).bind fun y660 =>
              some (.inr (y660.2.1, y660.2.2.2.1, y660.2.2.2.2.1, y660.2.2.2.2.2.1, y660.2.2.2.2.2.2.1, y660.1, y660.2.2.1, y660.2.2.2.2.2.2.2))
          else
            (f_impl_copyHome p419 p420 p421 p422 p423 p424 p425 p426).bind fun y661 =>
            some (.inr (y661.2.1, y661.2.2.2.1, y661.2.2.2.2.1, y661.2.2.2.2.2.1, y661.2.2.2.2.2.2.1, y661.1, y661.2.2.1, y661.2.2.2.2.2.2.2))
      else
        bif (decide (p427 = (7 : Int))) then
          bif p437 then
            bif (decide (p417 = p436)) then
              bif (decide (p440 = (0 : Int))) then
                (f_slices_Clone_int_int p430).bind fun y662 =>
                bif (!p439) then
                  bif ((decide ((0 : Int) ≤ p436)) && (decide (p436 < (p446.length : Int)))) then
                  (some ((p446.set p436.toNat true) : List Bool)).bind fun z663 =>
                  (f_impl_keeper_give y662 (-1) z663 p437 p438 p439 p440 p447 p441 p448).bind fun y664 =>
                  some (.inl (p431, p432, p433, p434, p435, y664.2.1, y664.2.2.2.1, y664.2.2.2.2.1, y664.2.2.2.2.2.1, y664.2.2.2.2.2.2.1, y664.2.2.2.2.2.2.2.2.1, p442, p443, p444, y664.1, y664.2.2.1, y664.2.2.2.2.2.2.2.1, y664.2.2.2.2.2.2.2.2.2))
                  else none
                else
                  (f_impl_keeper_give y662 (-1) p446 p437 p438 p439 p440 p447 p441 p448).bind fun y665 =>
                  some (.inl (p431, p432, p433, p434, p435, y665.2.1, y665.2.2.2.1, y665.2.2.2.2.1, y665.2.2.2.2.2.1, y665.2.2.2.2.2.2.1, y665.2.2.2.2.2.2.2.2.1, p442, p443, p444, y665.1, y665.2.2.1, y665.2.2.2.2.2.2.2.1, y665.2.2.2.2.2.2.2.2.2))
              else
                (f_impl_copyHome p419 p420 p421 p422 p423 p424 p425 p426).bind fun y666 =>
                some (.inr (y666.2.1, y666.2.2.2.1, y666.2.2.2.2.1, y666.2.2.2.2.2.1, y666.2.2.2.2.2.2.1, y666.1, y666.2.2.1, y666.2.2.2.2.2.2.2))
            else
              (f_impl_copyHome p419 p420 p421 p422 p423 p424 p425 p426).bind fun y667 =>
              some (.inr (y667.2.1, y667.2.2.2.1, y667.2.2.2.2.1, y667.2.2.2.2.2.1, y667.2.2.2.2.2.2.1, y667.1, y667.2.2.1, y667.2.2.2.2.2.2.2))
          else
            (f_impl_copyHome p419 p420 p421 p422 p423 p424 p425 p426).bind fun y668 =>
            some (.inr (y668.2.1, y668.2.2.2.1, y668.2.2.2.2.1, y668.2.2.2.2.2.1, y668.2.2.2.2.2.2.1, y668.1, y668.2.2.1, y668.2.2.2.2.2.2.2))
        else
          (f_impl_copyHome p419 p420 p421 p422 p423 p424 p425 p426).bind fun y669 =>
          some (.inr (y669.2.1, y669.2.2.2.1, y669.2.2.2.2.1, y669.2.2.2.2.2.1, y669.2.2.2.2.2.2.1, y669.1, y669.2.2.1, y669.2.2.2.2.2.2.2))
noncomputable def f_impl_HomeHear (x0 : List Int) (x1 : Int) (x2 : List Bool) (x3 : Bool) (x4 : Int) (x5 : Bool) (x6 : Int) (x7 : List (Int × Bool)) (x8 : Int) (x9 : Int) (x10 : Int) (x11 : Int) (x12 : Int) (x13 : Bool) (x14 : List Int) : Option (List Int × Int × List Bool × Bool × Int × Bool × Int × (List (Int × Bool)) × (List (Int × Int × Int × Bool × List Int))) :=
  (f_impl_HomeOk x0 x1 x2 x3 x4 x5 x6 x7 x8).bind fun y788 =>
  bif (!y788) then
    (f_impl_copyHome x0 x1 x2 x3 x4 x5 x6 x7).bind fun y789 =>
    some (y789.1, y789.2.1, y789.2.2.1, y789.2.2.2.1, y789.2.2.2.2.1, y789.2.2.2.2.2.1, y789.2.2.2.2.2.2.1, y789.2.2.2.2.2.2.2, [])
  else
    (f_impl_MsgOk x11 x12 x13 x14).bind fun y790 =>
    bif (!y790) then
      (f_impl_copyHome x0 x1 x2 x3 x4 x5 x6 x7).bind fun y791 =>
      some (y791.1, y791.2.1, y791.2.2.1, y791.2.2.2.1, y791.2.2.2.2.1, y791.2.2.2.2.2.1, y791.2.2.2.2.2.2.1, y791.2.2.2.2.2.2.2, [])
    else
      (f_impl_isOf x10 x8).bind fun y792 =>
      bif (!y792) then
        (f_impl_copyHome x0 x1 x2 x3 x4 x5 x6 x7).bind fun y793 =>
        some (y793.1, y793.2.1, y793.2.2.1, y793.2.2.2.1, y793.2.2.2.2.1, y793.2.2.2.2.2.1, y793.2.2.2.2.2.2.1, y793.2.2.2.2.2.2.2, [])
      else
        bif (!(decide (x9 = x12))) then
          (f_impl_copyHome x0 x1 x2 x3 x4 x5 x6 x7).bind fun y794 =>
          some (y794.1, y794.2.1, y794.2.2.1, y794.2.2.2.1, y794.2.2.2.2.1, y794.2.2.2.2.2.1, y794.2.2.2.2.2.2.1, y794.2.2.2.2.2.2.2, [])
        else
          (f_impl_copyHome x0 x1 x2 x3 x4 x5 x6 x7).bind fun y795 =>
          bif (decide (x11 = (1 : Int))) then
            (f_impl_HomeHear.j0 x10 (decide ((y795.2.2.2.2.2.2.2.length : Int) < (12 : Int))) x0 x1 x2 x3 x4 x5 x6 x7 x11 x12 x13 x14 0 false 0 false 0 y795.2.1 y795.2.2.2.1 y795.2.2.2.2.1 y795.2.2.2.2.2.1 y795.2.2.2.2.2.2.1 x9 ([] : List Int) ([] : List Bool) ([] : List (Int × Bool)) y795.1 y795.2.2.1 y795.2.2.2.2.2.2.2 ([] : List (Int × Int × Int × Bool × List Int))).bind fun r796 =>
            cs r796 (fun a797 =>
              (f_impl_HomeHear.l1 N a797.1 a797.2.1 a797.2.2.1 a797.2.2.2.1 a797.2.2.2.2.1 a797.2.2.2.2.2.1 a797.2.2.2.2.2.2.1 a797.2.2.2.2.2.2.2.1 a797.2.2.2.2.2.2.2.2.1 a797.2.2.2.2.2.2.2.2.2.1 a797.2.2.2.2.2.2.2.2.2.2.1 a797.2.2.2.2.2.2.2.2.2.2.2.1 a797.2.2.2.2.2.2.2.2.2.2.2.2.1 a797.2.2.2.2.2.2.2.2.2.2.2.2.2.1 a797.2.2.2.2.2.2.2.2.2.2.2.2.2.2.1 a797.2.2.2.2.2.2.2.2.2.2.2.2.2.2.2.1 a797.2.2.2.2.2.2.2.2.2.2.2.2.2.2.2.2.1 a797.2.2.2.2.2.2.2.2.2.2.2.2.2.2.2.2.2).bind fun r799 =>
              some (r799.2.2.2.2.2.2.2.2.2.2.2.2.2.2.1, r799.2.2.2.2.2.1, r799.2.2.2.2.2.2.2.2.2.2.2.2.2.2.2.1, r799.2.2.2.2.2.2.1, r799.2.2.2.2.2.2.2.1, r799.2.2.2.2.2.2.2.2.1, r799.2.2.2.2.2.2.2.2.2.1, r799.2.2.2.2.2.2.2.2.2.2.2.2.2.2.2.2.1, r799.2.2.2.2.2.2.2.2.2.2.2.2.2.2.2.2.2)) (fun b798 =>
              some (b798.2.2.2.2.2.1, b798.1, b798.2.2.2.2.2.2.1, b798.2.1, b798.2.2.1, b798.2.2.2.1, b798.2.2.2.2.1, b798.2.2.2.2.2.2.2, []))
          else
            bif (decide (x11 = (2 : Int))) then
              (f_impl_HomeHear.j0 x10 (decide ((y795.2.2.2.2.2.2.2.length : Int) < (12 : Int))) x0 x1 x2 x3 x4 x5 x6 x7 x11 x12 x13 x14 0 false 0 false 0 y795.2.1 y795.2.2.2.1 y795.2.2.2.2.1 y795.2.2.2.2.2.1 y795.2.2.2.2.2.2.1 x9 ([] : List Int) ([] : List Bool) ([] : List (Int × Bool)) y795.1 y795.2.2.1 y795.2.2.2.2.2.2.2 ([] : List (Int × Int × Int × Bool × List Int))).bind fun r800 =>
              cs r800 (fun a801 =>
                (f_impl_HomeHear.l1 N a801.1 a801.2.1 a801.2.2.1 a801.2.2.2.1 a801.2.2.2.2.1 a801.2.2.2.2.2.1 a801.2.2.2.2.2.2.1 a801.2.2.2.2.2.2.2.1 a801.2.2.2.2.2.2.2.2.1 a801.2.2.2.2.2.2.2.2.2.1 a801.2.2.2.2.2.2.2.2.2.2.1 a801.2.2.2.2.2.2.2.2.2.2.2.1 a801.2.2.2.2.2.2.2.2.2.2.2.2.1 a801.2.2.2.2.2.2.2.2.2.2.2.2.2.1 a801.2.2.2.2.2.2.2.2.2.2.2.2.2.2.1 a801.2.2.2.2.2.2.2.2.2.2.2.2.2.2.2.1 a801.2.2.2.2.2.2.2.2.2.2.2.2.2.2.2.2.1 a801.2.2.2.2.2.2.2.2.2.2.2.2.2.2.2.2.2).bind fun r803 =>
                some (r803.2.2.2.2.2.2.2.2.2.2.2.2.2.2.1, r803.2.2.2.2.2.1, r803.2.2.2.2.2.2.2.2.2.2.2.2.2.2.2.1, r803.2.2.2.2.2.2.1, r803.2.2.2.2.2.2.2.1, r803.2.2.2.2.2.2.2.2.1, r803.2.2.2.2.2.2.2.2.2.1, r803.2.2.2.2.2.2.2.2.2.2.2.2.2.2.2.2.1, r803.2.2.2.2.2.2.2.2.2.2.2.2.2.2.2.2.2)) (fun b802 =>
                some (b802.2.2.2.2.2.1, b802.1, b802.2.2.2.2.2.2.1, b802.2.1, b802.2.2.1, b802.2.2.2.1, b802.2.2.2.2.1, b802.2.2.2.2.2.2.2, []))
            else
              (f_impl_HomeHear.j0 x10 false x0 x1 x2 x3 x4 x5 x6 x7 x11 x12 x13 x14 0 false 0 false 0 y795.2.1 y795.2.2.2.1 y795.2.2.2.2.1 y795.2.2.2.2.2.1 y795.2.2.2.2.2.2.1 x9 ([] : List Int) ([] : List Bool) ([] : List (Int × Bool)) y795.1 y795.2.2.1 y795.2.2.2.2.2.2.2 ([] : List (Int × Int × Int × Bool × List Int))).bind fun r804 =>
              cs r804 (fun a805 =>
                (f_impl_HomeHear.l1 N a805.1 a805.2.1 a805.2.2.1 a805.2.2.2.1 a805.2.2.2.2.1 a805.2.2.2.2.2.1 a805.2.2.2.2.2.2.1 a805.2.2.2.2.2.2.2.1 a805.2.2.2.2.2.2.2.2.1 a805.2.2.2.2.2.2.2.2.2.1 a805.2.2.2.2.2.2.2.2.2.2.1 a805.2.2.2.2.2.2.2.2.2.2.2.1 a805.2.2.2.2.2.2.2.2.2.2.2.2.1 a805.2.2.2.2.2.2.2.2.2.2.2.2.2.1 a805.2.2.2.2.2.2.2.2.2.2.2.2.2.2.1 a805.2.2.2.2.2.2.2.2.2.2.2.2.2.2.2.1 a805.2.2.2.2.2.2.2.2.2.2.2.2.2.2.2.2.1 a805.2.2.2.2.2.2.2.2.2.2.2.2.2.2.2.2.2).bind fun r807 =>
                some (r807.2.2.2.2.2.2.2.2.2.2.2.2.2.2.1, r807.2.2.2.2.2.1, r807.2.2.2.2.2.2.2.2.2.2.2.2.2.2.2.1, r807.2.2.2.2.2.2.1, r807.2.2.2.2.2.2.2.1, r807.2.2.2.2.2.2.2.2.1, r807.2.2.2.2.2.2.2.2.2.1, r807.2.2.2.2.2.2.2.2.2.2.2.2.2.2.2.2.1, r807.2.2.2.2.2.2.2.2.2.2.2.2.2.2.2.2.2)) (fun b806 =>
                some (b806.2.2.2.2.2.1, b806.1, b806.2.2.2.2.2.2.1, b806.2.1, b806.2.2.1, b806.2.2.2.1, b806.2.2.2.2.1, b806.2.2.2.2.2.2.2, []))
noncomputable def C86 : Con := ⟨[(.B, true, [(.sl R1), (.int .i64), (.sl R2), .bool, (.int .i64), .bool, (.int .i64), (.sl R3)]), (.B, false, [(.int .i64)]), (.B, false, [(.int .i64)]), (.B, false, [(.int .i64)]), (.B, true, [(.int .i64), (.int .i64), .bool, (.sl R1)])], [(true, [(.sl R1), (.int .i64), (.sl R2), .bool, (.int .i64), .bool, (.int .i64), (.sl R3)]), (false, [(.sl R4)])], [(.sl R1), (.int .i64), (.sl R2), .bool, (.int .i64), .bool, (.int .i64), (.sl R3), (.int .i64), (.int .i64), (.int .i64), (.int .i64), (.int .i64), .bool, (.sl R1)], [(.sl R1), (.int .i64), (.sl R2), .bool, (.int .i64), .bool, (.int .i64), (.sl R3), (.sl R4)], fun (p : List Int × Int × List Bool × Bool × Int × Bool × Int × (List (Int × Bool)) × Int × Int × Int × Int × Int × Bool × List Int) => f_impl_HomeHear p.1 p.2.1 p.2.2.1 p.2.2.2.1 p.2.2.2.2.1 p.2.2.2.2.2.1 p.2.2.2.2.2.2.1 p.2.2.2.2.2.2.2.1 p.2.2.2.2.2.2.2.2.1 p.2.2.2.2.2.2.2.2.2.1 p.2.2.2.2.2.2.2.2.2.2.1 p.2.2.2.2.2.2.2.2.2.2.2.1 p.2.2.2.2.2.2.2.2.2.2.2.2.1 p.2.2.2.2.2.2.2.2.2.2.2.2.2.1 p.2.2.2.2.2.2.2.2.2.2.2.2.2.2⟩
noncomputable def f_impl_HomeHear.j0.c : LoopCon := ⟨1000, 6, [3, 5, 9, 10, 11, 12, 43], ⟨[(3, .int .i64 0), (5, .ptr 1000 0), (9, .ptr 1001 0), (10, .ptr 1002 0), (11, .nil (some R4)), (12, .ptr 1003 0), (43, .bool false)], [(1000, .box [.bor none R1 [], .int .i64 0, .bor none R2 [], .bool false, .int .i64 0, .bool false, .int .i64 0, .bor none R3 []]), (1001, .box [.int .i64 0, .int .i64 0, .bool false, .bor none R1 []]), (1002, .box [.ref 1004 [] none, .int .i64 0, .ref 1005 [] none, .bool false, .int .i64 0, .bool false, .int .i64 0, .ref 1006 [] none]), (1003, .box [.ref 1007 [] none, .int .i64 0, .ref 1008 [] none, .bool false, .int .i64 0, .bool false, .int .i64 0, .ref 1009 [] none, .int .i64 0, .ref 1010 [] none]), (1004, .row R1 []), (1005, .row R2 []), (1006, .row R3 []), (1007, .row R1 []), (1008, .row R2 []), (1009, .row R3 []), (1010, .row R4 [])], 1011⟩, [(.int .i64), .bool, (.sl R1), (.int .i64), (.sl R2), .bool, (.int .i64), .bool, (.int .i64), (.sl R3), (.int .i64), (.int .i64), .bool, (.sl R1), (.int .i64), .bool, (.int .i64), .bool, (.int .i64), (.int .i64), .bool, (.int .i64), .bool, (.int .i64), (.int .i64), (.sl R1), (.sl R2), (.sl R3), (.sl R1), (.sl R2), (.sl R3), (.sl R4)], [⟨.normal, [10, 11, 12], ⟨[(10, .ptr 1000 0), (11, .nil (some R4)), (12, .ptr 1001 0)], [(1000, .box [.ref 1002 [] none, .int .i64 0, .ref 1003 [] none, .bool false, .int .i64 0, .bool false, .int .i64 0, .ref 1004 [] none]), (1001, .box [.ref 1005 [] none, .int .i64 0, .ref 1006 [] none, .bool false, .int .i64 0, .bool false, .int .i64 0, .ref 1007 [] none, .int .i64 0, .ref 1008 [] none]), (1002, .row R1 []), (1003, .row R2 []), (1004, .row R3 []), (1005, .row R1 []), (1006, .row R2 []), (1007, .row R3 []), (1008, .row R4 [])], 1009⟩, [(.int .i64), .bool, (.int .i64), .bool, (.int .i64), (.int .i64), .bool, (.int .i64), .bool, (.int .i64), (.int .i64), (.sl R1), (.sl R2), (.sl R3), (.sl R1), (.sl R2), (.sl R3), (.sl R4)]⟩, ⟨.ret, [10, 11], ⟨[(10, .ptr 1000 0), (11, .nil (some R4))], [(1000, .box [.ref 1001 [] none, .int .i64 0, .ref 1002 [] none, .bool false, .int .i64 0, .bool false, .int .i64 0, .ref 1003 [] none]), (1001, .row R1 []), (1002, .row R2 []), (1003, .row R3 [])], 1004⟩, [(.int .i64), .bool, (.int .i64), .bool, (.int .i64), (.sl R1), (.sl R2), (.sl R3)]⟩], fun (p : Int × Bool × List Int × Int × List Bool × Bool × Int × Bool × Int × (List (Int × Bool)) × Int × Int × Bool × List Int × Int × Bool × Int × Bool × Int × Int × Bool × Int × Bool × Int × Int × List Int × List Bool × (List (Int × Bool)) × List Int × List Bool × (List (Int × Bool)) × (List (Int × Int × Int × Bool × List Int))) => f_impl_HomeHear.j0 p.1 p.2.1 p.2.2.1 p.2.2.2.1 p.2.2.2.2.1 p.2.2.2.2.2.1 p.2.2.2.2.2.2.1 p.2.2.2.2.2.2.2.1 p.2.2.2.2.2.2.2.2.1 p.2.2.2.2.2.2.2.2.2.1 p.2.2.2.2.2.2.2.2.2.2.1 p.2.2.2.2.2.2.2.2.2.2.2.1 p.2.2.2.2.2.2.2.2.2.2.2.2.1 p.2.2.2.2.2.2.2.2.2.2.2.2.2.1 p.2.2.2.2.2.2.2.2.2.2.2.2.2.2.1 p.2.2.2.2.2.2.2.2.2.2.2.2.2.2.2.1 p.2.2.2.2.2.2.2.2.2.2.2.2.2.2.2.2.1 p.2.2.2.2.2.2.2.2.2.2.2.2.2.2.2.2.2.1 p.2.2.2.2.2.2.2.2.2.2.2.2.2.2.2.2.2.2.1 p.2.2.2.2.2.2.2.2.2.2.2.2.2.2.2.2.2.2.2.1 p.2.2.2.2.2.2.2.2.2.2.2.2.2.2.2.2.2.2.2.2.1 p.2.2.2.2.2.2.2.2.2.2.2.2.2.2.2.2.2.2.2.2.2.1 p.2.2.2.2.2.2.2.2.2.2.2.2.2.2.2.2.2.2.2.2.2.2.1 p.2.2.2.2.2.2.2.2.2.2.2.2.2.2.2.2.2.2.2.2.2.2.2.1 p.2.2.2.2.2.2.2.2.2.2.2.2.2.2.2.2.2.2.2.2.2.2.2.2.1 p.2.2.2.2.2.2.2.2.2.2.2.2.2.2.2.2.2.2.2.2.2.2.2.2.2.1 p.2.2.2.2.2.2.2.2.2.2.2.2.2.2.2.2.2.2.2.2.2.2.2.2.2.2.1 p.2.2.2.2.2.2.2.2.2.2.2.2.2.2.2.2.2.2.2.2.2.2.2.2.2.2.2.1 p.2.2.2.2.2.2.2.2.2.2.2.2.2.2.2.2.2.2.2.2.2.2.2.2.2.2.2.2.1 p.2.2.2.2.2.2.2.2.2.2.2.2.2.2.2.2.2.2.2.2.2.2.2.2.2.2.2.2.2.1 p.2.2.2.2.2.2.2.2.2.2.2.2.2.2.2.2.2.2.2.2.2.2.2.2.2.2.2.2.2.2.1 p.2.2.2.2.2.2.2.2.2.2.2.2.2.2.2.2.2.2.2.2.2.2.2.2.2.2.2.2.2.2.2⟩
noncomputable def f_impl_HomeHear.l1.c : LoopCon := ⟨1000, 6, [10, 11, 12], ⟨[(10, .ptr 1000 0), (11, .nil (some R4)), (12, .ptr 1001 0)], [(1000, .box [.ref 1002 [] none, .int .i64 0, .ref 1003 [] none, .bool false, .int .i64 0, .bool false, .int .i64 0, .ref 1004 [] none]), (1001, .box [.ref 1005 [] none, .int .i64 0, .ref 1006 [] none, .bool false, .int .i64 0, .bool false, .int .i64 0, .ref 1007 [] none, .int .i64 0, .ref 1008 [] none]), (1002, .row R1 []), (1003, .row R2 []), (1004, .row R3 []), (1005, .row R1 []), (1006, .row R2 []), (1007, .row R3 []), (1008, .row R4 [])], 1009⟩, [(.int .i64), .bool, (.int .i64), .bool, (.int .i64), (.int .i64), .bool, (.int .i64), .bool, (.int .i64), (.int .i64), (.sl R1), (.sl R2), (.sl R3), (.sl R1), (.sl R2), (.sl R3), (.sl R4)], [⟨.exit 1, [10, 11, 12], ⟨[(10, .ptr 1000 0), (11, .nil (some R4)), (12, .ptr 1001 0)], [(1000, .box [.ref 1002 [] none, .int .i64 0, .ref 1003 [] none, .bool false, .int .i64 0, .bool false, .int .i64 0, .ref 1004 [] none]), (1001, .box [.ref 1005 [] none, .int .i64 0, .ref 1006 [] none, .bool false, .int .i64 0, .bool false, .int .i64 0, .ref 1007 [] none, .int .i64 0, .ref 1008 [] none]), (1002, .row R1 []), (1003, .row R2 []), (1004, .row R3 []), (1005, .row R1 []), (1006, .row R2 []), (1007, .row R3 []), (1008, .row R4 [])], 1009⟩, [(.int .i64), .bool, (.int .i64), .bool, (.int .i64), (.int .i64), .bool, (.int .i64), .bool, (.int .i64), (.int .i64), (.sl R1), (.sl R2), (.sl R3), (.sl R1), (.sl R2), (.sl R3), (.sl R4)]⟩], fun (p : Int × Bool × Int × Bool × Int × Int × Bool × Int × Bool × Int × Int × List Int × List Bool × (List (Int × Bool)) × List Int × List Bool × (List (Int × Bool)) × (List (Int × Int × Int × Bool × List Int))) => f_impl_HomeHear.l1 N p.1 p.2.1 p.2.2.1 p.2.2.2.1 p.2.2.2.2.1 p.2.2.2.2.2.1 p.2.2.2.2.2.2.1 p.2.2.2.2.2.2.2.1 p.2.2.2.2.2.2.2.2.1 p.2.2.2.2.2.2.2.2.2.1 p.2.2.2.2.2.2.2.2.2.2.1 p.2.2.2.2.2.2.2.2.2.2.2.1 p.2.2.2.2.2.2.2.2.2.2.2.2.1 p.2.2.2.2.2.2.2.2.2.2.2.2.2.1 p.2.2.2.2.2.2.2.2.2.2.2.2.2.2.1 p.2.2.2.2.2.2.2.2.2.2.2.2.2.2.2.1 p.2.2.2.2.2.2.2.2.2.2.2.2.2.2.2.2.1 p.2.2.2.2.2.2.2.2.2.2.2.2.2.2.2.2.2⟩
noncomputable abbrev K86 : Cons := [(37, C37), (89, C89), (100, C100), (142, C142), (162, C162), (163, C163), (164, C164)]
noncomputable abbrev L86 : List (Nat × Loops) := [(86, [(1000006, f_impl_HomeHear.j0.c), (17, f_impl_HomeHear.l1.c)])]
abbrev Q86 : List (Nat × List (Int × Nat) × Nat) := []
noncomputable abbrev X86 : Nat → Ctx := ctxOf tb K86 L86 Q86
theorem f_impl_HomeHear.j0.ok : ∀ p, (fun (p : Int × Bool × List Int × Int × List Bool × Bool × Int × Bool × Int × (List (Int × Bool)) × Int × Int × Bool × List Int × Int × Bool × Int × Bool × Int × Int × Bool × Int × Bool × Int × Int × List Int × List Bool × (List (Int × Bool)) × List Int × List Bool × (List (Int × Bool)) × (List (Int × Int × Int × Bool × List Int))) => f_impl_HomeHear.j0 p.1 p.2.1 p.2.2.1 p.2.2.2.1 p.2.2.2.2.1 p.2.2.2.2.2.1 p.2.2.2.2.2.2.1 p.2.2.2.2.2.2.2.1 p.2.2.2.2.2.2.2.2.1 p.2.2.2.2.2.2.2.2.2.1 p.2.2.2.2.2.2.2.2.2.2.1 p.2.2.2.2.2.2.2.2.2.2.2.1 p.2.2.2.2.2.2.2.2.2.2.2.2.1 p.2.2.2.2.2.2.2.2.2.2.2.2.2.1 p.2.2.2.2.2.2.2.2.2.2.2.2.2.2.1 p.2.2.2.2.2.2.2.2.2.2.2.2.2.2.2.1 p.2.2.2.2.2.2.2.2.2.2.2.2.2.2.2.2.1 p.2.2.2.2.2.2.2.2.2.2.2.2.2.2.2.2.2.1 p.2.2.2.2.2.2.2.2.2.2.2.2.2.2.2.2.2.2.1 p.2.2.2.2.2.2.2.2.2.2.2.2.2.2.2.2.2.2.2.1 p.2.2.2.2.2.2.2.2.2.2.2.2.2.2.2.2.2.2.2.2.1 p.2.2.2.2.2.2.2.2.2.2.2.2.2.2.2.2.2.2.2.2.2.1 p.2.2.2.2.2.2.2.2.2.2.2.2.2.2.2.2.2.2.2.2.2.2.1 p.2.2.2.2.2.2.2.2.2.2.2.2.2.2.2.2.2.2.2.2.2.2.2.1 p.2.2.2.2.2.2.2.2.2.2.2.2.2.2.2.2.2.2.2.2.2.2.2.2.1 p.2.2.2.2.2.2.2.2.2.2.2.2.2.2.2.2.2.2.2.2.2.2.2.2.2.1 p.2.2.2.2.2.2.2.2.2.2.2.2.2.2.2.2.2.2.2.2.2.2.2.2.2.2.1 p.2.2.2.2.2.2.2.2.2.2.2.2.2.2.2.2.2.2.2.2.2.2.2.2.2.2.2.1 p.2.2.2.2.2.2.2.2.2.2.2.2.2.2.2.2.2.2.2.2.2.2.2.2.2.2.2.2.1 p.2.2.2.2.2.2.2.2.2.2.2.2.2.2.2.2.2.2.2.2.2.2.2.2.2.2.2.2.2.1 p.2.2.2.2.2.2.2.2.2.2.2.2.2.2.2.2.2.2.2.2.2.2.2.2.2.2.2.2.2.2.1 p.2.2.2.2.2.2.2.2.2.2.2.2.2.2.2.2.2.2.2.2.2.2.2.2.2.2.2.2.2.2.2) p = iterD (roundOf fs X86 6 86 1000006 false f_impl_HomeHear.j0.c) 1 p := fun p => by kernel_rfl
theorem f_impl_HomeHear.l1.ok : ∀ n p, (fun (p : Int × Bool × Int × Bool × Int × Int × Bool × Int × Bool × Int × Int × List Int × List Bool × (List (Int × Bool)) × List Int × List Bool × (List (Int × Bool)) × (List (Int × Int × Int × Bool × List Int))) => f_impl_HomeHear.l1 n p.1 p.2.1 p.2.2.1 p.2.2.2.1 p.2.2.2.2.1 p.2.2.2.2.2.1 p.2.2.2.2.2.2.1 p.2.2.2.2.2.2.2.1 p.2.2.2.2.2.2.2.2.1 p.2.2.2.2.2.2.2.2.2.1 p.2.2.2.2.2.2.2.2.2.2.1 p.2.2.2.2.2.2.2.2.2.2.2.1 p.2.2.2.2.2.2.2.2.2.2.2.2.1 p.2.2.2.2.2.2.2.2.2.2.2.2.2.1 p.2.2.2.2.2.2.2.2.2.2.2.2.2.2.1 p.2.2.2.2.2.2.2.2.2.2.2.2.2.2.2.1 p.2.2.2.2.2.2.2.2.2.2.2.2.2.2.2.2.1 p.2.2.2.2.2.2.2.2.2.2.2.2.2.2.2.2.2) p = iterD (roundOf fs X86 6 86 17 false f_impl_HomeHear.l1.c) n p :=
  iter_of (l := fun n => fun (p : Int × Bool × Int × Bool × Int × Int × Bool × Int × Bool × Int × Int × List Int × List Bool × (List (Int × Bool)) × List Int × List Bool × (List (Int × Bool)) × (List (Int × Int × Int × Bool × List Int))) => f_impl_HomeHear.l1 n p.1 p.2.1 p.2.2.1 p.2.2.2.1 p.2.2.2.2.1 p.2.2.2.2.2.1 p.2.2.2.2.2.2.1 p.2.2.2.2.2.2.2.1 p.2.2.2.2.2.2.2.2.1 p.2.2.2.2.2.2.2.2.2.1 p.2.2.2.2.2.2.2.2.2.2.1 p.2.2.2.2.2.2.2.2.2.2.2.1 p.2.2.2.2.2.2.2.2.2.2.2.2.1 p.2.2.2.2.2.2.2.2.2.2.2.2.2.1 p.2.2.2.2.2.2.2.2.2.2.2.2.2.2.1 p.2.2.2.2.2.2.2.2.2.2.2.2.2.2.2.1 p.2.2.2.2.2.2.2.2.2.2.2.2.2.2.2.2.1 p.2.2.2.2.2.2.2.2.2.2.2.2.2.2.2.2.2) (fun _ => rfl) (fun n p => by kernel_rfl)
theorem E86 : ∀ x, funRun fs X86 6 86 C86 x = C86.fn x := fun x => by kernel_rfl
theorem B86 : ConB Try.prog 86 C86 := ConB.make FS MIX TY (cons := K86) (L := L86) (ptrs := Q86) ⟨S37, S89, S100, S142, S162, S163, S164, trivial⟩ trivial ⟨⟨⟨1, fun p => f_impl_HomeHear.j0.ok p⟩, ⟨N, fun p => f_impl_HomeHear.l1.ok N p⟩, trivial⟩, trivial⟩ rfl rfl E86
theorem S86 : ConS Try.prog 86 C86 := B86.call rfl
/-! laws.sameInts: function 43 -/
noncomputable def f_laws_sameInts.l0 : Nat → (List Int) → (List Int) → Bool → Int → Option ((Bool) ⊕ (Bool))
  | 0, _, _, _, _ => none
  | n + 1, p808, p809, p810, p811 =>
    bif (decide (p811 < (p808.length : Int))) then
      bif ((decide ((0 : Int) ≤ p811)) && (decide (p811 < (p808.length : Int)))) then
      bif ((decide ((0 : Int) ≤ p811)) && (decide (p811 < (p809.length : Int)))) then
      bif (!(decide ((p808.getD p811.toNat 0) = (p809.getD p811.toNat 0)))) then
        some (.inl false)
      else
        f_laws_sameInts.l0 n p808 p809 p810 (IntKind.wrap .i64 (p811 + (1 : Int)))
      else none
      else none
    else
      some (.inr p810)
noncomputable def f_laws_sameInts (x0 : List Int) (x1 : List Int) : Option (Bool) :=
  bif (!(decide ((x0.length : Int) = (x1.length : Int)))) then
    some false
  else
    (f_laws_sameInts.l0 N x0 x1 false 0).bind fun r812 =>
    cs r812 (fun a813 =>
      some a813) (fun b814 =>
      some true)
noncomputable def C43 : Con := ⟨[(.B, false, [(.sl R1)]), (.B, false, [(.sl R1)])], [(false, [.bool])], [(.sl R1), (.sl R1)], [.bool], fun (p : List Int × List Int) => f_laws_sameInts p.1 p.2⟩
noncomputable def f_laws_sameInts.l0.c : LoopCon := ⟨1000, 6, [0, 1, 4, 5], ⟨[(0, .bor none R1 []), (1, .bor none R1 []), (4, .bool false), (5, .int .i64 0)], [], 1000⟩, [(.sl R1), (.sl R1), .bool, (.int .i64)], [⟨.ret, [4], ⟨[(4, .bool false)], [], 1000⟩, [.bool]⟩, ⟨.exit 0, [4], ⟨[(4, .bool false)], [], 1000⟩, [.bool]⟩], fun (p : List Int × List Int × Bool × Int) => f_laws_sameInts.l0 N p.1 p.2.1 p.2.2.1 p.2.2.2⟩
noncomputable abbrev K43 : Cons := []
noncomputable abbrev L43 : List (Nat × Loops) := [(43, [(4, f_laws_sameInts.l0.c)])]
abbrev Q43 : List (Nat × List (Int × Nat) × Nat) := []
noncomputable abbrev X43 : Nat → Ctx := ctxOf tb K43 L43 Q43
theorem f_laws_sameInts.l0.ok : ∀ n p, (fun (p : List Int × List Int × Bool × Int) => f_laws_sameInts.l0 n p.1 p.2.1 p.2.2.1 p.2.2.2) p = iterD (roundOf fs X43 6 43 4 false f_laws_sameInts.l0.c) n p :=
  iter_of (l := fun n => fun (p : List Int × List Int × Bool × Int) => f_laws_sameInts.l0 n p.1 p.2.1 p.2.2.1 p.2.2.2) (fun _ => rfl) (fun n p => by kernel_rfl)
theorem E43 : ∀ x, funRun fs X43 6 43 C43 x = C43.fn x := fun x => by kernel_rfl
theorem B43 : ConB Try.prog 43 C43 := ConB.make FS MIX TY (cons := K43) (L := L43) (ptrs := Q43) trivial trivial ⟨⟨⟨N, fun p => f_laws_sameInts.l0.ok N p⟩, trivial⟩, trivial⟩ rfl rfl E43
theorem S43 : ConS Try.prog 43 C43 := B43.call rfl
/-! laws.sameHome: function 88 -/
noncomputable def f_laws_sameHome.l1 : Nat → Bool → Int → (List Int) → Int → (List Bool) → Bool → Int → Bool → Int → (List (Int × Bool)) → (List Int) → Int → (List Bool) → Bool → Int → Bool → Int → (List (Int × Bool)) → Option ((Bool) ⊕ (Bool))
  | 0, _, _, _, _, _, _, _, _, _, _, _, _, _, _, _, _, _, _ => none
  | n + 1, p837, p838, p839, p840, p841, p842, p843, p844, p845, p846, p847, p848, p849, p850, p851, p852, p853, p854 =>
    bif (decide (p838 < (p846.length : Int))) then
      bif ((decide ((0 : Int) ≤ p838)) && (decide (p838 < (p846.length : Int)))) then
      bif ((decide ((0 : Int) ≤ p838)) && (decide (p838 < (p854.length : Int)))) then
      bif (!((decide (((p846.getD p838.toNat (0, false)).1) = ((p854.getD p838.toNat (0, false)).1))) && (((p846.getD p838.toNat (0, false)).2) == ((p854.getD p838.toNat (0, false)).2)))) then
        some (.inl false)
      else
        f_laws_sameHome.l1 n p837 (IntKind.wrap .i64 (p838 + (1 : Int))) p839 p840 p841 p842 p843 p844 p845 p846 p847 p848 p849 p850 p851 p852 p853 p854
      else none
      else none
    else
      some (.inr p837)
noncomputable def f_laws_sameHome.l0 : Nat → Bool → Int → (List Int) → Int → (List Bool) → Bool → Int → Bool → Int → (List (Int × Bool)) → (List Int) → Int → (List Bool) → Bool → Int → Bool → Int → (List (Int × Bool)) → Option ((Bool) ⊕ (Bool × List Int × Int × List Bool × Bool × Int × Bool × Int × (List (Int × Bool)) × List Int × Int × List Bool × Bool × Int × Bool × Int × (List (Int × Bool))))
  | 0, _, _, _, _, _, _, _, _, _, _, _, _, _, _, _, _, _, _ => none
  | n + 1, p816, p817, p818, p819, p820, p821, p822, p823, p824, p825, p826, p827, p828, p829, p830, p831, p832, p833 =>
    bif (decide (p817 < (p820.length : Int))) then
      bif ((decide ((0 : Int) ≤ p817)) && (decide (p817 < (p820.length : Int)))) then
      bif ((decide ((0 : Int) ≤ p817)) && (decide (p817 < (p828.length : Int)))) then
      bif (!((p820.getD p817.toNat false) == (p828.getD p817.toNat false))) then
        some (.inl false)
      else
        f_laws_sameHome.l0 n p816 (IntKind.wrap .i64 (p817 + (1 : Int))) p818 p819 p820 p821 p822 p823 p824 p825 p826 p827 p828 p829 p830 p831 p832 p833
      else none
      else none
    else
      some (.inr (p816, p818, p819, p820, p821, p822, p823, p824, p825, p826, p827, p828, p829, p830, p831, p832, p833))
noncomputable def f_laws_sameHome (x0 : List Int) (x1 : Int) (x2 : List Bool) (x3 : Bool) (x4 : Int) (x5 : Bool) (x6 : Int) (x7 : List (Int × Bool)) (x8 : List Int) (x9 : Int) (x10 : List Bool) (x11 : Bool) (x12 : Int) (x13 : Bool) (x14 : Int) (x15 : List (Int × Bool)) : Option (Bool) :=
  bif (!(decide (x1 = x9))) then
    some false
  else
    bif (!(x3 == x11)) then
      some false
    else
      bif (!((decide (x4 = x12)) && (x5 == x13))) then
        some false
      else
        bif (!(decide (x6 = x14))) then
          some false
        else
          (f_laws_sameInts x0 x8).bind fun y815 =>
          bif (!y815) then
            some false
          else
            bif (!(decide ((x2.length : Int) = (x10.length : Int)))) then
              some false
            else
              bif (!(decide ((x7.length : Int) = (x15.length : Int)))) then
                some false
              else
                (f_laws_sameHome.l0 N false 0 x0 x1 x2 x3 x4 x5 x6 x7 x8 x9 x10 x11 x12 x13 x14 x15).bind fun r834 =>
                cs r834 (fun a835 =>
                  some a835) (fun b836 =>
                  (f_laws_sameHome.l1 N b836.1 0 b836.2.1 b836.2.2.1 b836.2.2.2.1 b836.2.2.2.2.1 b836.2.2.2.2.2.1 b836.2.2.2.2.2.2.1 b836.2.2.2.2.2.2.2.1 b836.2.2.2.2.2.2.2.2.1 b836.2.2.2.2.2.2.2.2.2.1 b836.2.2.2.2.2.2.2.2.2.2.1 b836.2.2.2.2.2.2.2.2.2.2.2.1 b836.2.2.2.2.2.2.2.2.2.2.2.2.1 b836.2.2.2.2.2.2.2.2.2.2.2.2.2.1 b836.2.2.2.2.2.2.2.2.2.2.2.2.2.2.1 b836.2.2.2.2.2.2.2.2.2.2.2.2.2.2.2.1 b836.2.2.2.2.2.2.2.2.2.2.2.2.2.2.2.2).bind fun r855 =>
                  cs r855 (fun a856 =>
                    some a856) (fun b857 =>
                    some true))
noncomputable def C88 : Con := ⟨[(.B, true, [(.sl R1), (.int .i64), (.sl R2), .bool, (.int .i64), .bool, (.int .i64), (.sl R3)]), (.B, true, [(.sl R1), (.int .i64), (.sl R2), .bool, (.int .i64), .bool, (.int .i64), (.sl R3)])], [(false, [.bool])], [(.sl R1), (.int .i64), (.sl R2), .bool, (.int .i64), .bool, (.int .i64), (.sl R3), (.sl R1), (.int .i64), (.sl R2), .bool, (.int .i64), .bool, (.int .i64), (.sl R3)], [.bool], fun (p : List Int × Int × List Bool × Bool × Int × Bool × Int × (List (Int × Bool)) × List Int × Int × List Bool × Bool × Int × Bool × Int × (List (Int × Bool))) => f_laws_sameHome p.1 p.2.1 p.2.2.1 p.2.2.2.1 p.2.2.2.2.1 p.2.2.2.2.2.1 p.2.2.2.2.2.2.1 p.2.2.2.2.2.2.2.1 p.2.2.2.2.2.2.2.2.1 p.2.2.2.2.2.2.2.2.2.1 p.2.2.2.2.2.2.2.2.2.2.1 p.2.2.2.2.2.2.2.2.2.2.2.1 p.2.2.2.2.2.2.2.2.2.2.2.2.1 p.2.2.2.2.2.2.2.2.2.2.2.2.2.1 p.2.2.2.2.2.2.2.2.2.2.2.2.2.2.1 p.2.2.2.2.2.2.2.2.2.2.2.2.2.2.2⟩
noncomputable def f_laws_sameHome.l0.c : LoopCon := ⟨1000, 6, [2, 3, 4, 5], ⟨[(2, .ptr 1000 0), (3, .ptr 1001 0), (4, .bool false), (5, .int .i64 0)], [(1000, .box [.bor none R1 [], .int .i64 0, .bor none R2 [], .bool false, .int .i64 0, .bool false, .int .i64 0, .bor none R3 []]), (1001, .box [.bor none R1 [], .int .i64 0, .bor none R2 [], .bool false, .int .i64 0, .bool false, .int .i64 0, .bor none R3 []])], 1002⟩, [.bool, (.int .i64), (.sl R1), (.int .i64), (.sl R2), .bool, (.int .i64), .bool, (.int .i64), (.sl R3), (.sl R1), (.int .i64), (.sl R2), .bool, (.int .i64), .bool, (.int .i64), (.sl R3)], [⟨.ret, [4], ⟨[(4, .bool false)], [], 1000⟩, [.bool]⟩, ⟨.exit 0, [2, 3, 4], ⟨[(2, .ptr 1000 0), (3, .ptr 1001 0), (4, .bool false)], [(1000, .box [.bor none R1 [], .int .i64 0, .bor none R2 [], .bool false, .int .i64 0, .bool false, .int .i64 0, .bor none R3 []]), (1001, .box [.bor none R1 [], .int .i64 0, .bor none R2 [], .bool false, .int .i64 0, .bool false, .int .i64 0, .bor none R3 []])], 1002⟩, [.bool, (.sl R1), (.int .i64), (.sl R2), .bool, (.int .i64), .bool, (.int .i64), (.sl R3), (.sl R1), (.int .i64), (.sl R2), .bool, (.int .i64), .bool, (.int .i64), (.sl R3)]⟩], fun (p : Bool × Int × List Int × Int × List Bool × Bool × Int × Bool × Int × (List (Int × Bool)) × List Int × Int × List Bool × Bool × Int × Bool × Int × (List (Int × Bool))) => f_laws_sameHome.l0 N p.1 p.2.1 p.2.2.1 p.2.2.2.1 p.2.2.2.2.1 p.2.2.2.2.2.1 p.2.2.2.2.2.2.1 p.2.2.2.2.2.2.2.1 p.2.2.2.2.2.2.2.2.1 p.2.2.2.2.2.2.2.2.2.1 p.2.2.2.2.2.2.2.2.2.2.1 p.2.2.2.2.2.2.2.2.2.2.2.1 p.2.2.2.2.2.2.2.2.2.2.2.2.1 p.2.2.2.2.2.2.2.2.2.2.2.2.2.1 p.2.2.2.2.2.2.2.2.2.2.2.2.2.2.1 p.2.2.2.2.2.2.2.2.2.2.2.2.2.2.2.1 p.2.2.2.2.2.2.2.2.2.2.2.2.2.2.2.2.1 p.2.2.2.2.2.2.2.2.2.2.2.2.2.2.2.2.2⟩
noncomputable def f_laws_sameHome.l1.c : LoopCon := ⟨1000, 6, [2, 3, 4, 6], ⟨[(2, .ptr 1000 0), (3, .ptr 1001 0), (4, .bool false), (6, .int .i64 0)], [(1000, .box [.bor none R1 [], .int .i64 0, .bor none R2 [], .bool false, .int .i64 0, .bool false, .int .i64 0, .bor none R3 []]), (1001, .box [.bor none R1 [], .int .i64 0, .bor none R2 [], .bool false, .int .i64 0, .bool false, .int .i64 0, .bor none R3 []])], 1002⟩, [.bool, (.int .i64), (.sl R1), (.int .i64), (.sl R2), .bool, (.int .i64), .bool, (.int .i64), (.sl R3), (.sl R1), (.int .i64), (.sl R2), .bool, (.int .i64), .bool, (.int .i64), (.sl R3)], [⟨.ret, [4], ⟨[(4, .bool false)], [], 1000⟩, [.bool]⟩, ⟨.exit 2, [4], ⟨[(4, .bool false)], [], 1000⟩, [.bool]⟩], fun (p : Bool × Int × List Int × Int × List Bool × Bool × Int × Bool × Int × (List (Int × Bool)) × List Int × Int × List Bool × Bool × Int × Bool × Int × (List (Int × Bool))) => f_laws_sameHome.l1 N p.1 p.2.1 p.2.2.1 p.2.2.2.1 p.2.2.2.2.1 p.2.2.2.2.2.1 p.2.2.2.2.2.2.1 p.2.2.2.2.2.2.2.1 p.2.2.2.2.2.2.2.2.1 p.2.2.2.2.2.2.2.2.2.1 p.2.2.2.2.2.2.2.2.2.2.1 p.2.2.2.2.2.2.2.2.2.2.2.1 p.2.2.2.2.2.2.2.2.2.2.2.2.1 p.2.2.2.2.2.2.2.2.2.2.2.2.2.1 p.2.2.2.2.2.2.2.2.2.2.2.2.2.2.1 p.2.2.2.2.2.2.2.2.2.2.2.2.2.2.2.1 p.2.2.2.2.2.2.2.2.2.2.2.2.2.2.2.2.1 p.2.2.2.2.2.2.2.2.2.2.2.2.2.2.2.2.2⟩
noncomputable abbrev K88 : Cons := [(43, C43)]
noncomputable abbrev L88 : List (Nat × Loops) := [(88, [(4, f_laws_sameHome.l0.c), (9, f_laws_sameHome.l1.c)])]
abbrev Q88 : List (Nat × List (Int × Nat) × Nat) := []
noncomputable abbrev X88 : Nat → Ctx := ctxOf tb K88 L88 Q88
theorem f_laws_sameHome.l0.ok : ∀ n p, (fun (p : Bool × Int × List Int × Int × List Bool × Bool × Int × Bool × Int × (List (Int × Bool)) × List Int × Int × List Bool × Bool × Int × Bool × Int × (List (Int × Bool))) => f_laws_sameHome.l0 n p.1 p.2.1 p.2.2.1 p.2.2.2.1 p.2.2.2.2.1 p.2.2.2.2.2.1 p.2.2.2.2.2.2.1 p.2.2.2.2.2.2.2.1 p.2.2.2.2.2.2.2.2.1 p.2.2.2.2.2.2.2.2.2.1 p.2.2.2.2.2.2.2.2.2.2.1 p.2.2.2.2.2.2.2.2.2.2.2.1 p.2.2.2.2.2.2.2.2.2.2.2.2.1 p.2.2.2.2.2.2.2.2.2.2.2.2.2.1 p.2.2.2.2.2.2.2.2.2.2.2.2.2.2.1 p.2.2.2.2.2.2.2.2.2.2.2.2.2.2.2.1 p.2.2.2.2.2.2.2.2.2.2.2.2.2.2.2.2.1 p.2.2.2.2.2.2.2.2.2.2.2.2.2.2.2.2.2) p = iterD (roundOf fs X88 6 88 4 false f_laws_sameHome.l0.c) n p :=
  iter_of (l := fun n => fun (p : Bool × Int × List Int × Int × List Bool × Bool × Int × Bool × Int × (List (Int × Bool)) × List Int × Int × List Bool × Bool × Int × Bool × Int × (List (Int × Bool))) => f_laws_sameHome.l0 n p.1 p.2.1 p.2.2.1 p.2.2.2.1 p.2.2.2.2.1 p.2.2.2.2.2.1 p.2.2.2.2.2.2.1 p.2.2.2.2.2.2.2.1 p.2.2.2.2.2.2.2.2.1 p.2.2.2.2.2.2.2.2.2.1 p.2.2.2.2.2.2.2.2.2.2.1 p.2.2.2.2.2.2.2.2.2.2.2.1 p.2.2.2.2.2.2.2.2.2.2.2.2.1 p.2.2.2.2.2.2.2.2.2.2.2.2.2.1 p.2.2.2.2.2.2.2.2.2.2.2.2.2.2.1 p.2.2.2.2.2.2.2.2.2.2.2.2.2.2.2.1 p.2.2.2.2.2.2.2.2.2.2.2.2.2.2.2.2.1 p.2.2.2.2.2.2.2.2.2.2.2.2.2.2.2.2.2) (fun _ => rfl) (fun n p => by kernel_rfl)
theorem f_laws_sameHome.l1.ok : ∀ n p, (fun (p : Bool × Int × List Int × Int × List Bool × Bool × Int × Bool × Int × (List (Int × Bool)) × List Int × Int × List Bool × Bool × Int × Bool × Int × (List (Int × Bool))) => f_laws_sameHome.l1 n p.1 p.2.1 p.2.2.1 p.2.2.2.1 p.2.2.2.2.1 p.2.2.2.2.2.1 p.2.2.2.2.2.2.1 p.2.2.2.2.2.2.2.1 p.2.2.2.2.2.2.2.2.1 p.2.2.2.2.2.2.2.2.2.1 p.2.2.2.2.2.2.2.2.2.2.1 p.2.2.2.2.2.2.2.2.2.2.2.1 p.2.2.2.2.2.2.2.2.2.2.2.2.1 p.2.2.2.2.2.2.2.2.2.2.2.2.2.1 p.2.2.2.2.2.2.2.2.2.2.2.2.2.2.1 p.2.2.2.2.2.2.2.2.2.2.2.2.2.2.2.1 p.2.2.2.2.2.2.2.2.2.2.2.2.2.2.2.2.1 p.2.2.2.2.2.2.2.2.2.2.2.2.2.2.2.2.2) p = iterD (roundOf fs X88 6 88 9 false f_laws_sameHome.l1.c) n p :=
  iter_of (l := fun n => fun (p : Bool × Int × List Int × Int × List Bool × Bool × Int × Bool × Int × (List (Int × Bool)) × List Int × Int × List Bool × Bool × Int × Bool × Int × (List (Int × Bool))) => f_laws_sameHome.l1 n p.1 p.2.1 p.2.2.1 p.2.2.2.1 p.2.2.2.2.1 p.2.2.2.2.2.1 p.2.2.2.2.2.2.1 p.2.2.2.2.2.2.2.1 p.2.2.2.2.2.2.2.2.1 p.2.2.2.2.2.2.2.2.2.1 p.2.2.2.2.2.2.2.2.2.2.1 p.2.2.2.2.2.2.2.2.2.2.2.1 p.2.2.2.2.2.2.2.2.2.2.2.2.1 p.2.2.2.2.2.2.2.2.2.2.2.2.2.1 p.2.2.2.2.2.2.2.2.2.2.2.2.2.2.1 p.2.2.2.2.2.2.2.2.2.2.2.2.2.2.2.1 p.2.2.2.2.2.2.2.2.2.2.2.2.2.2.2.2.1 p.2.2.2.2.2.2.2.2.2.2.2.2.2.2.2.2.2) (fun _ => rfl) (fun n p => by kernel_rfl)
theorem E88 : ∀ x, funRun fs X88 6 88 C88 x = C88.fn x := fun x => by kernel_rfl
theorem B88 : ConB Try.prog 88 C88 := ConB.make FS MIX TY (cons := K88) (L := L88) (ptrs := Q88) ⟨S43, trivial⟩ trivial ⟨⟨⟨N, fun p => f_laws_sameHome.l0.ok N p⟩, ⟨N, fun p => f_laws_sameHome.l1.ok N p⟩, trivial⟩, trivial⟩ rfl rfl E88
theorem S88 : ConS Try.prog 88 C88 := B88.call rfl
/-! spec.DrawHomeOk: function 91 -/
noncomputable def f_spec_DrawHomeOk.l0 : Nat → (List Int) → Int → Int → Int → Bool → Int → Bool → Int → Option (List Int × Int × Int × Bool × Int × Bool × Int)
  | 0, _, _, _, _, _, _, _, _ => none
  | n + 1, p858, p859, p860, p861, p862, p863, p864, p865 =>
    bif (decide (p860 < (p858.length : Int))) then
      bif (decide (p860 < (4000 : Int))) then
        bif ((decide ((0 : Int) ≤ p860)) && (decide (p860 < (p858.length : Int)))) then
        f_spec_DrawHomeOk.l0 n p858 (bitI .and .i64 (IntKind.wrap .i64 ((IntKind.wrap .i64 ((IntKind.wrap .i64 (p859 * (131 : Int))) + (IntKind.wrap .i64 ((p858.getD p860.toNat 0))))) + (7 : Int))) (1073741823 : Int)) (IntKind.wrap .i64 (p860 + (1 : Int))) p861 p862 p863 p864 p865
        else none
      else
        some (p858, p859, p861, p862, p863, p864, p865)
    else
      some (p858, p859, p861, p862, p863, p864, p865)
noncomputable def f_spec_DrawHomeOk (x0 : List Int) : Option (List Int × Int × List Bool × Bool × Int × Bool × Int × (List (Int × Bool)) × Int) :=
  (f_spec_DrawHomeOk.l0 N x0 (IntKind.wrap .i64 ((20404 : Int) + (x0.length : Int))) 0 0 false 0 false 0).bind fun r866 =>
  (f_spec_l4Draw r866.1 0 r866.2.1).bind fun y867 =>
  (f_spec_l1PickInt r866.1 y867.2.2.2.2.2.2.2.2.1 y867.2.2.2.2.2.2.2.2.2 ([3, 3, 3, 2, 4, 0, 5] : List Int)).bind fun y868 =>
  some (y867.1, y867.2.1, y867.2.2.1, y867.2.2.2.1, y867.2.2.2.2.1, y867.2.2.2.2.2.1, y867.2.2.2.2.2.2.1, y867.2.2.2.2.2.2.2.1, y868.1)
noncomputable def C91 : Con := ⟨[(.B, false, [(.sl R0)])], [(true, [(.sl R1), (.int .i64), (.sl R2), .bool, (.int .i64), .bool, (.int .i64), (.sl R3)]), (false, [(.int .i64)])], [(.sl R0)], [(.sl R1), (.int .i64), (.sl R2), .bool, (.int .i64), .bool, (.int .i64), (.sl R3), (.int .i64)], fun (p : List Int) => f_spec_DrawHomeOk p⟩
noncomputable def f_spec_DrawHomeOk.l0.c : LoopCon := ⟨1081, 5, [0, 3, 4], ⟨[(0, .bor none R0 []), (3, .int .i64 0), (4, .int .i64 0)], [(1001, .box [.nil (some R1), .int .i64 0, .nil (some R2), .bool false, .int .i64 0, .bool false, .int .i64 0, .nil (some R3)])], 1081⟩, [(.sl R0), (.int .i64), (.int .i64), (.int .i64), .bool, (.int .i64), .bool, (.int .i64)], [⟨.exit 0, [0, 3], ⟨[(0, .bor none R0 []), (3, .int .i64 0)], [(1001, .box [.nil (some R1), .int .i64 0, .nil (some R2), .bool false, .int .i64 0, .bool false, .int .i64 0, .nil (some R3)])], 1081⟩, [(.sl R0), (.int .i64), (.int .i64), .bool, (.int .i64), .bool, (.int .i64)]⟩], fun (p : List Int × Int × Int × Int × Bool × Int × Bool × Int) => f_spec_DrawHomeOk.l0 N p.1 p.2.1 p.2.2.1 p.2.2.2.1 p.2.2.2.2.1 p.2.2.2.2.2.1 p.2.2.2.2.2.2.1 p.2.2.2.2.2.2.2⟩
noncomputable abbrev K91 : Cons := [(110, C110), (161, C161)]
noncomputable abbrev L91 : List (Nat × Loops) := [(107, [(3, f_spec_DrawHomeOk.l0.c)])]
abbrev Q91 : List (Nat × List (Int × Nat) × Nat) := []
noncomputable abbrev X91 : Nat → Ctx := ctxOf tb K91 L91 Q91
theorem f_spec_DrawHomeOk.l0.ok : ∀ n p, (fun (p : List Int × Int × Int × Int × Bool × Int × Bool × Int) => f_spec_DrawHomeOk.l0 n p.1 p.2.1 p.2.2.1 p.2.2.2.1 p.2.2.2.2.1 p.2.2.2.2.2.1 p.2.2.2.2.2.2.1 p.2.2.2.2.2.2.2) p = iterD (roundOf fs X91 5 107 3 true f_spec_DrawHomeOk.l0.c) n p :=
  iter_of (l := fun n => fun (p : List Int × Int × Int × Int × Bool × Int × Bool × Int) => f_spec_DrawHomeOk.l0 n p.1 p.2.1 p.2.2.1 p.2.2.2.1 p.2.2.2.2.1 p.2.2.2.2.2.1 p.2.2.2.2.2.2.1 p.2.2.2.2.2.2.2) (fun _ => rfl) (fun n p => by kernel_rfl)
theorem E91 : ∀ x, funRun fs X91 6 91 C91 x = C91.fn x := fun x => by kernel_rfl
theorem B91 : ConB Try.prog 91 C91 := ConB.make FS MIX TY (cons := K91) (L := L91) (ptrs := Q91) ⟨S110, S161, trivial⟩ trivial ⟨⟨⟨N, fun p => f_spec_DrawHomeOk.l0.ok N p⟩, trivial⟩, trivial⟩ rfl rfl E91
theorem S91 : ConS Try.prog 91 C91 := B91.call rfl
/-! spec.DrawHomeNew: function 92 -/
noncomputable def f_spec_DrawHomeNew.l0 : Nat → (List Int) → Int → Int → Option (List Int × Int)
  | 0, _, _, _ => none
  | n + 1, p869, p870, p871 =>
    bif (decide (p871 < (p869.length : Int))) then
      bif (decide (p871 < (4000 : Int))) then
        bif ((decide ((0 : Int) ≤ p871)) && (decide (p871 < (p869.length : Int)))) then
        f_spec_DrawHomeNew.l0 n p869 (bitI .and .i64 (IntKind.wrap .i64 ((IntKind.wrap .i64 ((IntKind.wrap .i64 (p870 * (131 : Int))) + (IntKind.wrap .i64 ((p869.getD p871.toNat 0))))) + (7 : Int))) (1073741823 : Int)) (IntKind.wrap .i64 (p871 + (1 : Int)))
        else none
      else
        some (p869, p870)
    else
      some (p869, p870)
noncomputable def f_spec_DrawHomeNew (x0 : List Int) : Option (Int) :=
  (f_spec_DrawHomeNew.l0 N x0 (IntKind.wrap .i64 ((20404 : Int) + (x0.length : Int))) 0).bind fun r872 =>
  (f_spec_l1Below r872.1 0 r872.2 7).bind fun y873 =>
  some (IntKind.wrap .i64 (y873.1 - (1 : Int)))
noncomputable def C92 : Con := ⟨[(.B, false, [(.sl R0)])], [(false, [(.int .i64)])], [(.sl R0)], [(.int .i64)], fun (p : List Int) => f_spec_DrawHomeNew p⟩
noncomputable def f_spec_DrawHomeNew.l0.c : LoopCon := ⟨1097, 5, [0, 3, 4], ⟨[(0, .bor none R0 []), (3, .int .i64 0), (4, .int .i64 0)], [], 1097⟩, [(.sl R0), (.int .i64), (.int .i64)], [⟨.exit 0, [0, 3], ⟨[(0, .bor none R0 []), (3, .int .i64 0)], [], 1097⟩, [(.sl R0), (.int .i64)]⟩], fun (p : List Int × Int × Int) => f_spec_DrawHomeNew.l0 N p.1 p.2.1 p.2.2⟩
noncomputable abbrev K92 : Cons := [(109, C109)]
noncomputable abbrev L92 : List (Nat × Loops) := [(107, [(3, f_spec_DrawHomeNew.l0.c)])]
abbrev Q92 : List (Nat × List (Int × Nat) × Nat) := []
noncomputable abbrev X92 : Nat → Ctx := ctxOf tb K92 L92 Q92
theorem f_spec_DrawHomeNew.l0.ok : ∀ n p, (fun (p : List Int × Int × Int) => f_spec_DrawHomeNew.l0 n p.1 p.2.1 p.2.2) p = iterD (roundOf fs X92 5 107 3 true f_spec_DrawHomeNew.l0.c) n p :=
  iter_of (l := fun n => fun (p : List Int × Int × Int) => f_spec_DrawHomeNew.l0 n p.1 p.2.1 p.2.2) (fun _ => rfl) (fun n p => by kernel_rfl)
theorem E92 : ∀ x, funRun fs X92 6 92 C92 x = C92.fn x := fun x => by kernel_rfl
theorem B92 : ConB Try.prog 92 C92 := ConB.make FS MIX TY (cons := K92) (L := L92) (ptrs := Q92) ⟨S109, trivial⟩ trivial ⟨⟨⟨N, fun p => f_spec_DrawHomeNew.l0.ok N p⟩, trivial⟩, trivial⟩ rfl rfl E92
theorem S92 : ConS Try.prog 92 C92 := B92.call rfl
/-! impl.HomeNew: function 93 -/
noncomputable def f_impl_HomeNew (x0 : Int) : Option (List Int × Int × List Bool × Bool × Int × Bool × Int × (List (Int × Bool))) :=
  (f_impl_from x0 1 4).bind fun y874 =>
  bif (!y874) then
    some ([], 0, [], false, 0, false, 0, [])
  else
    bif (decide ((0 : Int) ≤ x0) && Nat.ble x0.toNat 140737488355328) then
    some ((List.replicate 4 0), -1, (List.replicate x0.toNat false), false, 0, false, 0, [])
    else none
noncomputable def C93 : Con := ⟨[(.B, false, [(.int .i64)])], [(true, [(.sl R1), (.int .i64), (.sl R2), .bool, (.int .i64), .bool, (.int .i64), (.sl R3)])], [(.int .i64)], [(.sl R1), (.int .i64), (.sl R2), .bool, (.int .i64), .bool, (.int .i64), (.sl R3)], fun (p : Int) => f_impl_HomeNew p⟩
noncomputable abbrev K93 : Cons := [(103, C103)]
noncomputable abbrev L93 : List (Nat × Loops) := []
abbrev Q93 : List (Nat × List (Int × Nat) × Nat) := []
noncomputable abbrev X93 : Nat → Ctx := ctxOf tb K93 L93 Q93
theorem E93 : ∀ x, funRun fs X93 6 93 C93 x = C93.fn x := fun x => by kernel_rfl
theorem B93 : ConB Try.prog 93 C93 := ConB.make FS MIX TY (cons := K93) (L := L93) (ptrs := Q93) ⟨S103, trivial⟩ trivial trivial rfl rfl E93
theorem S93 : ConS Try.prog 93 C93 := B93.call rfl
/-! laws.FnHome: function 14 -/
noncomputable def f_laws_FnHome.l1 : Nat → Bool → Int → Int → Int → Bool → Int → Bool → Int → (List (Int × Int × Int × Bool × List Int)) → (List Int) → (List Bool) → (List (Int × Bool)) → Option ((Bool) ⊕ (Bool × Int × Int × Bool × Int × Bool × Int × List Int × List Bool × (List (Int × Bool))))
  | 0, _, _, _, _, _, _, _, _, _, _, _, _ => none
  | n + 1, p914, p915, p916, p917, p918, p919, p920, p921, p922, p923, p924, p925 =>
    bif (decide (p916 < (p922.length : Int))) then
      bif ((decide ((0 : Int) ≤ p916)) && (decide (p916 < (p922.length : Int)))) then
      (f_impl_MsgOk ((p922.getD p916.toNat (0, 0, 0, false, [])).2.1) ((p922.getD p916.toNat (0, 0, 0, false, [])).2.2.1) ((p922.getD p916.toNat (0, 0, 0, false, [])).2.2.2.1) ((p922.getD p916.toNat (0, 0, 0, false, [])).2.2.2.2)).bind fun y926 =>
      bif (!y926) then
        some (.inl false)
      else
        bif ((decide ((0 : Int) ≤ p916)) && (decide (p916 < (p922.length : Int)))) then
        bif (decide (((p922.getD p916.toNat (0, 0, 0, false, [])).1) < (0 : Int))) then
          some (.inl false)
        else
          bif ((decide ((0 : Int) ≤ p916)) && (decide (p916 < (p922.length : Int)))) then
          bif (decide (p915 ≤ ((p922.getD p916.toNat (0, 0, 0, false, [])).1))) then
            some (.inl false)
          else
            f_laws_FnHome.l1 n p914 p915 (IntKind.wrap .i64 (p916 + (1 : Int))) p917 p918 p919 p920 p921 p922 p923 p924 p925
          else none
        else none
      else none
    else
      some (.inr (p914, p915, p917, p918, p919, p920, p921, p923, p924, p925))
noncomputable def f_laws_FnHome.l0 : Nat → (List Int) → Bool → Int → Int → Int → Bool → Int → Bool → Int → Int → Bool → Int → Bool → Int → (List (Int × Int × Int × Bool × List Int)) → (List (Int × Int × Int × Bool × List Int)) → (List Int) → (List Bool) → (List (Int × Bool)) → (List Int) → (List Bool) → (List (Int × Bool)) → Option ((Bool) ⊕ (List Int × Bool × Int × Int × Bool × Int × Bool × Int × Int × Bool × Int × Bool × Int × (List (Int × Int × Int × Bool × List Int)) × List Int × List Bool × (List (Int × Bool)) × List Int × List Bool × (List (Int × Bool))))
  | 0, _, _, _, _, _, _, _, _, _, _, _, _, _, _, _, _, _, _, _, _, _, _ => none
  | n + 1, p882, p883, p884, p885, p886, p887, p888, p889, p890, p891, p892, p893, p894, p895, p896, p897, p898, p899, p900, p901, p902, p903 =>
    bif (decide (p885 < (p896.length : Int))) then
      bif ((decide ((0 : Int) ≤ p885)) && (decide (p885 < (p896.length : Int)))) then
      bif ((decide ((0 : Int) ≤ p885)) && (decide (p885 < (p897.length : Int)))) then
      bif (!(decide (((p896.getD p885.toNat (0, 0, 0, false, [])).1) = ((p897.getD p885.toNat (0, 0, 0, false, [])).1)))) then
        some (.inl false)
      else
        bif ((decide ((0 : Int) ≤ p885)) && (decide (p885 < (p896.length : Int)))) then
        bif ((decide ((0 : Int) ≤ p885)) && (decide (p885 < (p897.length : Int)))) then
        bif (!(decide (((p896.getD p885.toNat (0, 0, 0, false, [])).2.1) = ((p897.getD p885.toNat (0, 0, 0, false, [])).2.1)))) then
          some (.inl false)
        else
          f_laws_FnHome.l0 n p882 p883 p884 (IntKind.wrap .i64 (p885 + (1 : Int))) p886 p887 p888 p889 p890 p891 p892 p893 p894 p895 p896 p897 p898 p899 p900 p901 p902 p903
        else none
        else none
      else none
      else none
    else
      some (.inr (p882, p883, p884, p886, p887, p888, p889, p890, p891, p892, p893, p894, p895, p896, p898, p899, p900, p901, p902, p903))
noncomputable def f_laws_FnHome (x0 : List Int) : Option (Bool) :=
  (f_laws_big x0).bind fun y875 =>
  bif y875 then
    some true
  else
    (f_spec_DrawHomeHear x0).bind fun y876 =>
    (f_impl_HomeHear y876.1 y876.2.1 y876.2.2.1 y876.2.2.2.1 y876.2.2.2.2.1 y876.2.2.2.2.2.1 y876.2.2.2.2.2.2.1 y876.2.2.2.2.2.2.2.1 y876.2.2.2.2.2.2.2.2.1 y876.2.2.2.2.2.2.2.2.2.1 y876.2.2.2.2.2.2.2.2.2.2.1 y876.2.2.2.2.2.2.2.2.2.2.2.1 y876.2.2.2.2.2.2.2.2.2.2.2.2.1 y876.2.2.2.2.2.2.2.2.2.2.2.2.2.1 y876.2.2.2.2.2.2.2.2.2.2.2.2.2.2).bind fun y877 =>
    (f_spec_HomeHear y876.1 y876.2.1 y876.2.2.1 y876.2.2.2.1 y876.2.2.2.2.1 y876.2.2.2.2.2.1 y876.2.2.2.2.2.2.1 y876.2.2.2.2.2.2.2.1 y876.2.2.2.2.2.2.2.2.1 y876.2.2.2.2.2.2.2.2.2.1 y876.2.2.2.2.2.2.2.2.2.2.1 y876.2.2.2.2.2.2.2.2.2.2.2.1 y876.2.2.2.2.2.2.2.2.2.2.2.2.1 y876.2.2.2.2.2.2.2.2.2.2.2.2.2.1 y876.2.2.2.2.2.2.2.2.2.2.2.2.2.2).bind fun y878 =>
    (f_laws_sameHome y877.1 y877.2.1 y877.2.2.1 y877.2.2.2.1 y877.2.2.2.2.1 y877.2.2.2.2.2.1 y877.2.2.2.2.2.2.1 y877.2.2.2.2.2.2.2.1 y878.1 y878.2.1 y878.2.2.1 y878.2.2.2.1 y878.2.2.2.2.1 y878.2.2.2.2.2.1 y878.2.2.2.2.2.2.1 y878.2.2.2.2.2.2.2.1).bind fun y879 =>
    bif (!y879) then
      some false
    else
      bif (!(decide ((y877.2.2.2.2.2.2.2.2.length : Int) = (y878.2.2.2.2.2.2.2.2.length : Int)))) then
        some false
      else
        (f_impl_HomeOk y876.1 y876.2.1 y876.2.2.1 y876.2.2.2.1 y876.2.2.2.2.1 y876.2.2.2.2.2.1 y876.2.2.2.2.2.2.1 y876.2.2.2.2.2.2.2.1 y876.2.2.2.2.2.2.2.2.1).bind fun y880 =>
        (f_spec_HomeOk y876.1 y876.2.1 y876.2.2.1 y876.2.2.2.1 y876.2.2.2.2.1 y876.2.2.2.2.2.1 y876.2.2.2.2.2.2.1 y876.2.2.2.2.2.2.2.1 y876.2.2.2.2.2.2.2.2.1).bind fun y881 =>
        bif (!(y880 == y881)) then
          some false
        else
          (f_laws_FnHome.l0 N x0 false y876.2.2.2.2.2.2.2.2.1 0 y876.2.1 y876.2.2.2.1 y876.2.2.2.2.1 y876.2.2.2.2.2.1 y876.2.2.2.2.2.2.1 y877.2.1 y877.2.2.2.1 y877.2.2.2.2.1 y877.2.2.2.2.2.1 y877.2.2.2.2.2.2.1 y877.2.2.2.2.2.2.2.2 y878.2.2.2.2.2.2.2.2 y876.1 y876.2.2.1 y876.2.2.2.2.2.2.2.1 y877.1 y877.2.2.1 y877.2.2.2.2.2.2.2.1).bind fun r904 =>
          cs r904 (fun a905 =>
            some a905) (fun b906 =>
            (f_spec_DrawHomeOk b906.1).bind fun y907 =>
            (f_spec_DrawHomeNew b906.1).bind fun y908 =>
            (f_impl_HomeOk y907.1 y907.2.1 y907.2.2.1 y907.2.2.2.1 y907.2.2.2.2.1 y907.2.2.2.2.2.1 y907.2.2.2.2.2.2.1 y907.2.2.2.2.2.2.2.1 y907.2.2.2.2.2.2.2.2).bind fun y909 =>
            (f_spec_HomeOk y907.1 y907.2.1 y907.2.2.1 y907.2.2.2.1 y907.2.2.2.2.1 y907.2.2.2.2.2.1 y907.2.2.2.2.2.2.1 y907.2.2.2.2.2.2.2.1 y907.2.2.2.2.2.2.2.2).bind fun y910 =>
            bif (!(y909 == y910)) then
              some false
            else
              (f_impl_HomeNew y908).bind fun y911 =>
              (f_spec_HomeNew y908).bind fun y912 =>
              bif (!(decide ((y911.1.length : Int) = (y912.1.length : Int)))) then
                some false
              else
                (f_spec_HomeOk b906.2.2.2.2.2.2.2.2.2.2.2.2.2.2.1 b906.2.2.2.1 b906.2.2.2.2.2.2.2.2.2.2.2.2.2.2.2.1 b906.2.2.2.2.1 b906.2.2.2.2.2.1 b906.2.2.2.2.2.2.1 b906.2.2.2.2.2.2.2.1 b906.2.2.2.2.2.2.2.2.2.2.2.2.2.2.2.2.1 b906.2.2.1).bind fun y913 =>
                bif (!y913) then
                  some (decide ((b906.2.2.2.2.2.2.2.2.2.2.2.2.2.1.length : Int) = (0 : Int)))
                else
                  (f_laws_FnHome.l1 N b906.2.1 b906.2.2.1 0 b906.2.2.2.2.2.2.2.2.1 b906.2.2.2.2.2.2.2.2.2.1 b906.2.2.2.2.2.2.2.2.2.2.1 b906.2.2.2.2.2.2.2.2.2.2.2.1 b906.2.2.2.2.2.2.2.2.2.2.2.2.1 b906.2.2.2.2.2.2.2.2.2.2.2.2.2.1 b906.2.2.2.2.2.2.2.2.2.2.2.2.2.2.2.2.2.1 b906.2.2.2.2.2.2.2.2.2.2.2.2.2.2.2.2.2.2.1 b906.2.2.2.2.2.2.2.2.2.2.2.2.2.2.2.2.2.2.2).bind fun r927 =>
                  cs r927 (fun a928 =>
                    some a928) (fun b929 =>
                    (f_impl_HomeOk b929.2.2.2.2.2.2.2.1 b929.2.2.1 b929.2.2.2.2.2.2.2.2.1 b929.2.2.2.1 b929.2.2.2.2.1 b929.2.2.2.2.2.1 b929.2.2.2.2.2.2.1 b929.2.2.2.2.2.2.2.2.2 b929.2.1).bind fun y930 =>
                    some y930))
noncomputable def C14 : Con := ⟨[(.B, false, [(.sl R0)])], [(false, [.bool])], [(.sl R0)], [.bool], fun (p : List Int) => f_laws_FnHome p⟩
noncomputable def f_laws_FnHome.l0.c : LoopCon := ⟨1000, 6, [0, 2, 3, 4, 8, 9, 11, 12], ⟨[(0, .bor none R0 []), (2, .bool false), (3, .ptr 1000 0), (4, .int .i64 0), (8, .ptr 1001 0), (9, .ref 1002 [] none), (11, .ref 1003 [] none), (12, .int .i64 0)], [(1000, .box [.ref 1004 [] none, .int .i64 0, .ref 1005 [] none, .bool false, .int .i64 0, .bool false, .int .i64 0, .ref 1006 [] none]), (1001, .box [.ref 1007 [] none, .int .i64 0, .ref 1008 [] none, .bool false, .int .i64 0, .bool false, .int .i64 0, .ref 1009 [] none]), (1002, .row R4 []), (1003, .row R4 []), (1004, .row R1 []), (1005, .row R2 []), (1006, .row R3 []), (1007, .row R1 []), (1008, .row R2 []), (1009, .row R3 [])], 1010⟩, [(.sl R0), .bool, (.int .i64), (.int .i64), (.int .i64), .bool, (.int .i64), .bool, (.int .i64), (.int .i64), .bool, (.int .i64), .bool, (.int .i64), (.sl R4), (.sl R4), (.sl R1), (.sl R2), (.sl R3), (.sl R1), (.sl R2), (.sl R3)], [⟨.ret, [2], ⟨[(2, .bool false)], [], 1000⟩, [.bool]⟩, ⟨.exit 0, [0, 2, 3, 4, 8, 9], ⟨[(0, .bor none R0 []), (2, .bool false), (3, .ptr 1000 0), (4, .int .i64 0), (8, .ptr 1001 0), (9, .ref 1002 [] none)], [(1000, .box [.ref 1003 [] none, .int .i64 0, .ref 1004 [] none, .bool false, .int .i64 0, .bool false, .int .i64 0, .ref 1005 [] none]), (1001, .box [.ref 1006 [] none, .int .i64 0, .ref 1007 [] none, .bool false, .int .i64 0, .bool false, .int .i64 0, .ref 1008 [] none]), (1002, .row R4 []), (1003, .row R1 []), (1004, .row R2 []), (1005, .row R3 []), (1006, .row R1 []), (1007, .row R2 []), (1008, .row R3 [])], 1009⟩, [(.sl R0), .bool, (.int .i64), (.int .i64), .bool, (.int .i64), .bool, (.int .i64), (.int .i64), .bool, (.int .i64), .bool, (.int .i64), (.sl R4), (.sl R1), (.sl R2), (.sl R3), (.sl R1), (.sl R2), (.sl R3)]⟩], fun (p : List Int × Bool × Int × Int × Int × Bool × Int × Bool × Int × Int × Bool × Int × Bool × Int × (List (Int × Int × Int × Bool × List Int)) × (List (Int × Int × Int × Bool × List Int)) × List Int × List Bool × (List (Int × Bool)) × List Int × List Bool × (List (Int × Bool))) => f_laws_FnHome.l0 N p.1 p.2.1 p.2.2.1 p.2.2.2.1 p.2.2.2.2.1 p.2.2.2.2.2.1 p.2.2.2.2.2.2.1 p.2.2.2.2.2.2.2.1 p.2.2.2.2.2.2.2.2.1 p.2.2.2.2.2.2.2.2.2.1 p.2.2.2.2.2.2.2.2.2.2.1 p.2.2.2.2.2.2.2.2.2.2.2.1 p.2.2.2.2.2.2.2.2.2.2.2.2.1 p.2.2.2.2.2.2.2.2.2.2.2.2.2.1 p.2.2.2.2.2.2.2.2.2.2.2.2.2.2.1 p.2.2.2.2.2.2.2.2.2.2.2.2.2.2.2.1 p.2.2.2.2.2.2.2.2.2.2.2.2.2.2.2.2.1 p.2.2.2.2.2.2.2.2.2.2.2.2.2.2.2.2.2.1 p.2.2.2.2.2.2.2.2.2.2.2.2.2.2.2.2.2.2.1 p.2.2.2.2.2.2.2.2.2.2.2.2.2.2.2.2.2.2.2.1 p.2.2.2.2.2.2.2.2.2.2.2.2.2.2.2.2.2.2.2.2.1 p.2.2.2.2.2.2.2.2.2.2.2.2.2.2.2.2.2.2.2.2.2⟩
noncomputable def f_laws_FnHome.l1.c : LoopCon := ⟨1000, 6, [2, 4, 8, 9, 16], ⟨[(2, .bool false), (4, .int .i64 0), (8, .ptr 1000 0), (9, .ref 1001 [] none), (16, .int .i64 0)], [(1000, .box [.ref 1002 [] none, .int .i64 0, .ref 1003 [] none, .bool false, .int .i64 0, .bool false, .int .i64 0, .ref 1004 [] none]), (1001, .row R4 []), (1002, .row R1 []), (1003, .row R2 []), (1004, .row R3 [])], 1005⟩, [.bool, (.int .i64), (.int .i64), (.int .i64), .bool, (.int .i64), .bool, (.int .i64), (.sl R4), (.sl R1), (.sl R2), (.sl R3)], [⟨.ret, [2], ⟨[(2, .bool false)], [], 1000⟩, [.bool]⟩, ⟨.exit 2, [2, 4, 8], ⟨[(2, .bool false), (4, .int .i64 0), (8, .ptr 1000 0)], [(1000, .box [.ref 1001 [] none, .int .i64 0, .ref 1002 [] none, .bool false, .int .i64 0, .bool false, .int .i64 0, .ref 1003 [] none]), (1001, .row R1 []), (1002, .row R2 []), (1003, .row R3 [])], 1004⟩, [.bool, (.int .i64), (.int .i64), .bool, (.int .i64), .bool, (.int .i64), (.sl R1), (.sl R2), (.sl R3)]⟩], fun (p : Bool × Int × Int × Int × Bool × Int × Bool × Int × (List (Int × Int × Int × Bool × List Int)) × List Int × List Bool × (List (Int × Bool))) => f_laws_FnHome.l1 N p.1 p.2.1 p.2.2.1 p.2.2.2.1 p.2.2.2.2.1 p.2.2.2.2.2.1 p.2.2.2.2.2.2.1 p.2.2.2.2.2.2.2.1 p.2.2.2.2.2.2.2.2.1 p.2.2.2.2.2.2.2.2.2.1 p.2.2.2.2.2.2.2.2.2.2.1 p.2.2.2.2.2.2.2.2.2.2.2⟩
noncomputable abbrev K14 : Cons := [(26, C26), (37, C37), (85, C85), (86, C86), (87, C87), (88, C88), (89, C89), (90, C90), (91, C91), (92, C92), (93, C93), (94, C94)]
noncomputable abbrev L14 : List (Nat × Loops) := [(14, [(9, f_laws_FnHome.l0.c), (20, f_laws_FnHome.l1.c)])]
abbrev Q14 : List (Nat × List (Int × Nat) × Nat) := []
noncomputable abbrev X14 : Nat → Ctx := ctxOf tb K14 L14 Q14
theorem f_laws_FnHome.l0.ok : ∀ n p, (fun (p : List Int × Bool × Int × Int × Int × Bool × Int × Bool × Int × Int × Bool × Int × Bool × Int × (List (Int × Int × Int × Bool × List Int)) × (List (Int × Int × Int × Bool × List Int)) × List Int × List Bool × (List (Int × Bool)) × List Int × List Bool × (List (Int × Bool))) => f_laws_FnHome.l0 n p.1 p.2.1 p.2.2.1 p.2.2.2.1 p.2.2.2.2.1 p.2.2.2.2.2.1 p.2.2.2.2.2.2.1 p.2.2.2.2.2.2.2.1 p.2.2.2.2.2.2.2.2.1 p.2.2.2.2.2.2.2.2.2.1 p.2.2.2.2.2.2.2.2.2.2.1 p.2.2.2.2.2.2.2.2.2.2.2.1 p.2.2.2.2.2.2.2.2.2.2.2.2.1 p.2.2.2.2.2.2.2.2.2.2.2.2.2.1 p.2.2.2.2.2.2.2.2.2.2.2.2.2.2.1 p.2.2.2.2.2.2.2.2.2.2.2.2.2.2.2.1 p.2.2.2.2.2.2.2.2.2.2.2.2.2.2.2.2.1 p.2.2.2.2.2.2.2.2.2.2.2.2.2.2.2.2.2.1 p.2.2.2.2.2.2.2.2.2.2.2.2.2.2.2.2.2.2.1 p.2.2.2.2.2.2.2.2.2.2.2.2.2.2.2.2.2.2.2.1 p.2.2.2.2.2.2.2.2.2.2.2.2.2.2.2.2.2.2.2.2.1 p.2.2.2.2.2.2.2.2.2.2.2.2.2.2.2.2.2.2.2.2.2) p = iterD (roundOf fs X14 6 14 9 false f_laws_FnHome.l0.c) n p :=
  iter_of (l := fun n => fun (p : List Int × Bool × Int × Int × Int × Bool × Int × Bool × Int × Int × Bool × Int × Bool × Int × (List (Int × Int × Int × Bool × List Int)) × (List (Int × Int × Int × Bool × List Int)) × List Int × List Bool × (List (Int × Bool)) × List Int × List Bool × (List (Int × Bool))) => f_laws_FnHome.l0 n p.1 p.2.1 p.2.2.1 p.2.2.2.1 p.2.2.2.2.1 p.2.2.2.2.2.1 p.2.2.2.2.2.2.1 p.2.2.2.2.2.2.2.1 p.2.2.2.2.2.2.2.2.1 p.2.2.2.2.2.2.2.2.2.1 p.2.2.2.2.2.2.2.2.2.2.1 p.2.2.2.2.2.2.2.2.2.2.2.1 p.2.2.2.2.2.2.2.2.2.2.2.2.1 p.2.2.2.2.2.2.2.2.2.2.2.2.2.1 p.2.2.2.2.2.2.2.2.2.2.2.2.2.2.1 p.2.2.2.2.2.2.2.2.2.2.2.2.2.2.2.1 p.2.2.2.2.2.2.2.2.2.2.2.2.2.2.2.2.1 p.2.2.2.2.2.2.2.2.2.2.2.2.2.2.2.2.2.1 p.2.2.2.2.2.2.2.2.2.2.2.2.2.2.2.2.2.2.1 p.2.2.2.2.2.2.2.2.2.2.2.2.2.2.2.2.2.2.2.1 p.2.2.2.2.2.2.2.2.2.2.2.2.2.2.2.2.2.2.2.2.1 p.2.2.2.2.2.2.2.2.2.2.2.2.2.2.2.2.2.2.2.2.2) (fun _ => rfl) (fun n p => by kernel_rfl)
theorem f_laws_FnHome.l1.ok : ∀ n p, (fun (p : Bool × Int × Int × Int × Bool × Int × Bool × Int × (List (Int × Int × Int × Bool × List Int)) × List Int × List Bool × (List (Int × Bool))) => f_laws_FnHome.l1 n p.1 p.2.1 p.2.2.1 p.2.2.2.1 p.2.2.2.2.1 p.2.2.2.2.2.1 p.2.2.2.2.2.2.1 p.2.2.2.2.2.2.2.1 p.2.2.2.2.2.2.2.2.1 p.2.2.2.2.2.2.2.2.2.1 p.2.2.2.2.2.2.2.2.2.2.1 p.2.2.2.2.2.2.2.2.2.2.2) p = iterD (roundOf fs X14 6 14 20 false f_laws_FnHome.l1.c) n p :=
  iter_of (l := fun n => fun (p : Bool × Int × Int × Int × Bool × Int × Bool × Int × (List (Int × Int × Int × Bool × List Int)) × List Int × List Bool × (List (Int × Bool))) => f_laws_FnHome.l1 n p.1 p.2.1 p.2.2.1 p.2.2.2.1 p.2.2.2.2.1 p.2.2.2.2.2.1 p.2.2.2.2.2.2.1 p.2.2.2.2.2.2.2.1 p.2.2.2.2.2.2.2.2.1 p.2.2.2.2.2.2.2.2.2.1 p.2.2.2.2.2.2.2.2.2.2.1 p.2.2.2.2.2.2.2.2.2.2.2) (fun _ => rfl) (fun n p => by kernel_rfl)
theorem E14 : ∀ x, funRun fs X14 6 14 C14 x = C14.fn x := fun x => by kernel_rfl
theorem B14 : ConB Try.prog 14 C14 := ConB.make FS MIX TY (cons := K14) (L := L14) (ptrs := Q14) ⟨S26, S37, S85, S86, S87, S88, S89, S90, S91, S92, S93, S94, trivial⟩ trivial ⟨⟨⟨N, fun p => f_laws_FnHome.l0.ok N p⟩, ⟨N, fun p => f_laws_FnHome.l1.ok N p⟩, trivial⟩, trivial⟩ rfl rfl E14
theorem S14 : ConS Try.prog 14 C14 := B14.call rfl
/-- What is left: the plain law. -/
def Pure : Prop := ∀ x : Tup [(.sl R0)], WfT [(.sl R0)] x → C14.fn x = some (true : Bool)
end
end Go.Abs
