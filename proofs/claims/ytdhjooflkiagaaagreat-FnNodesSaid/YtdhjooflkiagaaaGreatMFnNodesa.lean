import Derived.Test.YtdhjooflkiagaaaGreatProg
import Derived.Test.YtdhjooflkiagaaaGreatAbtD
import Derived.KernelRfl
namespace Go.Abs
open Go.Proofs
set_option linter.unusedVariables false
set_option maxRecDepth 100000
noncomputable section
abbrev tyN := List (Int × List (Int × List Int × Bool) × List (List Int × Int × List Bool × Bool × Int × Bool × Int × List (Int × Bool)) × List (Int × List (Int × Int × Bool × List Int)) × List Int)
abbrev tyP := List (Int × Int × Bool × Int × Int × Int × Bool × List Int)
abbrev tyH := List (List Int × Int × List Bool × Bool × Int × Bool × Int × List (Int × Bool))
abbrev tyS := List (Int × List (Int × Int × Bool × List Int))
abbrev tyF := List (Int × List Int × Bool)
abbrev tyM := List (Int × Int × Bool × List Int)
abbrev tyW := List (Int × Bool)
abbrev tyT := List (Int × Int × Int × Bool × List Int)
abbrev iI : CT := .int .i64
abbrev i0 : AV := .int .i64 0
abbrev bN (r : RT) : AV := .bor none r []
abbrev N : Nat := 1152921504606846976
abbrev R0 : RT := .one (.int .u8)
abbrev R1 : RT := .one (.int .i64)
abbrev R2 : RT := .one .bool
abbrev R3 : RT := .cons (.int .i64) (.one .bool)
abbrev R4 : RT := .cons (.int .i64) (.cons (.sl R1) (.one .bool))
abbrev R5 : RT := .cons (.sl R1) (.cons (.int .i64) (.cons (.sl R2) (.cons .bool (.cons (.int .i64) (.cons .bool (.cons (.int .i64) (.one (.sl R3))))))))
abbrev R6 : RT := .cons (.int .i64) (.cons (.int .i64) (.cons .bool (.one (.sl R1))))
abbrev R7 : RT := .cons (.int .i64) (.one (.sl R6))
abbrev R8 : RT := .cons (.int .i64) (.cons (.sl R4) (.cons (.sl R5) (.cons (.sl R7) (.one (.sl R1)))))
abbrev R9 : RT := .cons (.int .i64) (.cons (.int .i64) (.cons .bool (.cons (.int .i64) (.cons (.int .i64) (.cons (.int .i64) (.cons .bool (.one (.sl R1))))))))
abbrev R10 : RT := .cons (.int .i64) (.cons (.int .i64) (.cons (.int .i64) (.cons .bool (.one (.sl R1)))))
abbrev R11 : RT := .cons (.int .i64) (.cons (.int .i64) (.cons (.int .i64) (.one (.int .i64))))
noncomputable def tb : Tb := [(0, ⟨false, [], [], 0, 0⟩),
  (3, ⟨false, [(.int .i64)], [], 0, 8⟩),
  (4, ⟨false, [.bool], [], 0, 1⟩),
  (5, ⟨false, [(.int .u8)], [], 0, 1⟩),
  (28, ⟨false, [(.sl R8)], [], 49, 24⟩),
  (29, ⟨false, [(.sl R9)], [], 171, 24⟩),
  (31, ⟨true, [(.int .i64), (.sl R8), (.sl R9)], [(0, 3), (1, 28), (2, 29)], 0, 56⟩),
  (44, ⟨false, [(.sl R4)], [], 89, 24⟩),
  (45, ⟨false, [(.sl R5)], [], 146, 24⟩),
  (46, ⟨false, [(.sl R7)], [], 73, 24⟩),
  (47, ⟨false, [(.sl R1)], [], 106, 24⟩),
  (49, ⟨true, [(.int .i64), (.sl R4), (.sl R5), (.sl R7), (.sl R1)], [(0, 3), (1, 44), (2, 45), (3, 46), (4, 47)], 0, 104⟩),
  (50, ⟨false, [], [], 0, 0⟩),
  (56, ⟨false, [(.sl R6)], [], 76, 24⟩),
  (62, ⟨false, [(.sl R0)], [], 5, 24⟩),
  (64, ⟨false, [], [], 0, 0⟩),
  (66, ⟨false, [(.sl R1)], [], 3, 24⟩),
  (73, ⟨true, [(.int .i64), (.sl R6)], [(0, 3), (1, 56)], 0, 32⟩),
  (76, ⟨true, [(.int .i64), (.int .i64), .bool, (.sl R1)], [(0, 3), (1, 3), (2, 4), (3, 66)], 0, 48⟩),
  (77, ⟨false, [], [], 0, 0⟩),
  (80, ⟨false, [], [], 0, 0⟩),
  (83, ⟨false, [], [], 0, 0⟩),
  (86, ⟨false, [], [], 0, 0⟩),
  (89, ⟨true, [(.int .i64), (.sl R1), .bool], [(0, 3), (1, 66), (2, 4)], 0, 40⟩),
  (102, ⟨false, [], [], 0, 8⟩),
  (106, ⟨true, [(.int .i64)], [(0, 3)], 0, 8⟩),
  (113, ⟨false, [], [], 0, 0⟩),
  (130, ⟨false, [], [], 0, 8⟩),
  (137, ⟨false, [], [], 0, 8⟩),
  (140, ⟨false, [(.sl R10)], [], 152, 24⟩),
  (141, ⟨false, [(.sl R2)], [], 4, 24⟩),
  (143, ⟨true, [(.int .i64), .bool], [(0, 3), (1, 4)], 0, 16⟩),
  (144, ⟨false, [(.sl R3)], [], 143, 24⟩),
  (146, ⟨true, [(.sl R1), (.int .i64), (.sl R2), .bool, (.int .i64), .bool, (.int .i64), (.sl R3)], [(0, 66), (1, 3), (2, 141), (3, 4), (4, 143), (6, 3), (7, 144)], 0, 112⟩),
  (147, ⟨false, [], [], 0, 0⟩),
  (149, ⟨false, [], [], 0, 0⟩),
  (152, ⟨true, [(.int .i64), (.int .i64), (.int .i64), .bool, (.sl R1)], [(0, 3), (1, 76)], 0, 56⟩),
  (156, ⟨false, [], [], 0, 8⟩),
  (159, ⟨false, [], [], 0, 8⟩),
  (161, ⟨false, [], [], 0, 8⟩),
  (163, ⟨false, [], [], 0, 8⟩),
  (171, ⟨true, [(.int .i64), (.int .i64), .bool, (.int .i64), (.int .i64), (.int .i64), .bool, (.sl R1)], [(0, 3), (1, 3), (2, 4), (3, 3), (4, 76)], 0, 80⟩),
  (205, ⟨true, [(.sl R0), (.int .i64), (.int .i64)], [(0, 62), (1, 3), (2, 3)], 0, 40⟩),
  (212, ⟨false, [], [], 0, 8⟩),
  (213, ⟨false, [], [], 0, 8⟩),
  (215, ⟨true, [(.sl R1), (.int .i64), (.sl R2), .bool, (.int .i64), .bool, (.int .i64), (.sl R3), (.int .i64), (.sl R10)], [(0, 146), (8, 3), (9, 140)], 0, 144⟩),
  (221, ⟨false, [], [], 0, 8⟩),
  (236, ⟨false, [(.sl R11)], [], 251, 24⟩),
  (237, ⟨false, [], [], 0, 0⟩),
  (242, ⟨false, [], [], 0, 8⟩),
  (244, ⟨true, [(.sl R1), (.int .i64), (.sl R2), .bool, (.int .i64), .bool, (.int .i64), (.sl R3), (.int .i64), (.sl R10)], [(0, 146), (8, 3), (9, 140)], 0, 144⟩),
  (248, ⟨false, [], [], 0, 0⟩),
  (251, ⟨true, [(.int .i64), (.int .i64), (.int .i64), (.int .i64)], [(0, 3), (1, 3), (2, 3), (3, 3)], 0, 32⟩),
  (261, ⟨false, [], [], 0, 0⟩)]
noncomputable def fsL : List (Nat × Func) := [(31, Tryz.f31), (104, Tryz.f104), (175, Tryz.f175), (106, Tryz.f106), (60, Tryz.f60), (134, Tryz.f134), (51, Tryz.f51), (219, Tryz.f219), (223, Tryz.f223), (109, Tryz.f109), (220, Tryz.f220), (182, Tryz.f182), (130, Tryz.f130), (131, Tryz.f131), (113, Tryz.f113), (132, Tryz.f132), (48, Tryz.f48), (138, Tryz.f138), (59, Tryz.f59), (151, Tryz.f151), (152, Tryz.f152), (154, Tryz.f154), (153, Tryz.f153), (77, Tryz.f77), (228, Tryz.f228), (225, Tryz.f225), (231, Tryz.f231), (232, Tryz.f232), (216, Tryz.f216), (215, Tryz.f215), (183, Tryz.f183), (184, Tryz.f184), (114, Tryz.f114), (61, Tryz.f61), (115, Tryz.f115), (79, Tryz.f79), (116, Tryz.f116), (44, Tryz.f44), (229, Tryz.f229), (226, Tryz.f226), (230, Tryz.f230), (227, Tryz.f227), (78, Tryz.f78), (19, Tryz.f19), (224, Tryz.f224), (221, Tryz.f221), (206, Tryz.f206), (172, Tryz.f172), (176, Tryz.f176), (209, Tryz.f209), (207, Tryz.f207), (173, Tryz.f173), (208, Tryz.f208), (174, Tryz.f174), (178, Tryz.f178), (108, Tryz.f108), (177, Tryz.f177), (107, Tryz.f107), (42, Tryz.f42), (140, Tryz.f140), (100, Tryz.f100), (212, Tryz.f212), (211, Tryz.f211), (222, Tryz.f222), (210, Tryz.f210), (179, Tryz.f179), (120, Tryz.f120), (119, Tryz.f119), (185, Tryz.f185), (118, Tryz.f118), (188, Tryz.f188), (217, Tryz.f217), (187, Tryz.f187), (123, Tryz.f123), (122, Tryz.f122), (186, Tryz.f186), (121, Tryz.f121), (129, Tryz.f129), (65, Tryz.f65), (110, Tryz.f110), (191, Tryz.f191), (218, Tryz.f218), (190, Tryz.f190), (126, Tryz.f126), (125, Tryz.f125), (189, Tryz.f189), (124, Tryz.f124), (128, Tryz.f128), (192, Tryz.f192), (127, Tryz.f127), (47, Tryz.f47), (159, Tryz.f159), (146, Tryz.f146), (160, Tryz.f160), (201, Tryz.f201), (202, Tryz.f202), (161, Tryz.f161), (163, Tryz.f163), (162, Tryz.f162), (84, Tryz.f84), (213, Tryz.f213), (214, Tryz.f214), (180, Tryz.f180), (86, Tryz.f86), (111, Tryz.f111), (181, Tryz.f181), (112, Tryz.f112), (43, Tryz.f43), (45, Tryz.f45), (85, Tryz.f85), (21, Tryz.f21), (37, Tryz.f37), (117, Tryz.f117), (46, Tryz.f46), (49, Tryz.f49), (133, Tryz.f133), (50, Tryz.f50), (52, Tryz.f52), (9, Tryz.f9)]
noncomputable def fs : Nat → Option Func := getF fsL
theorem MIX : Tryz.prog.follows .mixedOrders = true := by kernel_rfl
theorem TY : tyCheck Tryz.prog tb = true := by kernel_rfl
theorem CAT : catCheck tb = true := by kernel_rfl
theorem FSP : FsP Tryz.prog fsL := ⟨Tryz.func31, Tryz.func104, Tryz.func175, Tryz.func106, Tryz.func60, Tryz.func134, Tryz.func51, Tryz.func219, Tryz.func223, Tryz.func109, Tryz.func220, Tryz.func182, Tryz.func130, Tryz.func131, Tryz.func113, Tryz.func132, Tryz.func48, Tryz.func138, Tryz.func59, Tryz.func151, Tryz.func152, Tryz.func154, Tryz.func153, Tryz.func77, Tryz.func228, Tryz.func225, Tryz.func231, Tryz.func232, Tryz.func216, Tryz.func215, Tryz.func183, Tryz.func184, Tryz.func114, Tryz.func61, Tryz.func115, Tryz.func79, Tryz.func116, Tryz.func44, Tryz.func229, Tryz.func226, Tryz.func230, Tryz.func227, Tryz.func78, Tryz.func19, Tryz.func224, Tryz.func221, Tryz.func206, Tryz.func172, Tryz.func176, Tryz.func209, Tryz.func207, Tryz.func173, Tryz.func208, Tryz.func174, Tryz.func178, Tryz.func108, Tryz.func177, Tryz.func107, Tryz.func42, Tryz.func140, Tryz.func100, Tryz.func212, Tryz.func211, Tryz.func222, Tryz.func210, Tryz.func179, Tryz.func120, Tryz.func119, Tryz.func185, Tryz.func118, Tryz.func188, Tryz.func217, Tryz.func187, Tryz.func123, Tryz.func122, Tryz.func186, Tryz.func121, Tryz.func129, Tryz.func65, Tryz.func110, Tryz.func191, Tryz.func218, Tryz.func190, Tryz.func126, Tryz.func125, Tryz.func189, Tryz.func124, Tryz.func128, Tryz.func192, Tryz.func127, Tryz.func47, Tryz.func159, Tryz.func146, Tryz.func160, Tryz.func201, Tryz.func202, Tryz.func161, Tryz.func163, Tryz.func162, Tryz.func84, Tryz.func213, Tryz.func214, Tryz.func180, Tryz.func86, Tryz.func111, Tryz.func181, Tryz.func112, Tryz.func43, Tryz.func45, Tryz.func85, Tryz.func21, Tryz.func37, Tryz.func117, Tryz.func46, Tryz.func49, Tryz.func133, Tryz.func50, Tryz.func52, Tryz.func9, trivial⟩
theorem FSC : (fsL.all fun p => fnChk p.2) = true := by kernel_rfl
theorem FS : FsS Tryz.prog fs := FsS.of FSP FSC
noncomputable def f_laws_big (x0 : List Int) : Option (Bool) :=
 some (decide ((1048576 : Int) < (x0.length : Int)))
noncomputable def C31 : Con := ⟨[(.B, false, [(.sl R0)])], [(false, [.bool])], [(.sl R0)], [.bool], fun (p : List Int) => f_laws_big p⟩
noncomputable abbrev K31 : Cons := []
noncomputable abbrev L31 : List (Nat × Loops) := []
abbrev Q31 : List (Nat × List (Int × Nat) × Nat) := []
noncomputable abbrev X31 : Nat → Ctx := ctxOf tb K31 L31 Q31
theorem E31 : ∀ x, funRun fs X31 6 31 C31 x = C31.fn x := fun x => by kernel_rfl
theorem B31 : ConB Tryz.prog 31 C31 := ConB.make FS MIX TY (cons := K31) (L := L31) (ptrs := Q31) trivial trivial trivial rfl rfl E31
theorem S31 : ConS Tryz.prog 31 C31 := B31.call rfl
noncomputable def f_spec_l1Byte (x0 : List Int) (x1 : Int) (x2 : Int) : Option (Int × Int × Int) :=
 bif (decide (x1 < (x0.length : Int))) then
 bif ((decide ((0 : Int) ≤ x1)) && (decide (x1 < (x0.length : Int)))) then
 some ((bitI .and .i64 (IntKind.wrap .i64 ((bitI .and .i64 (bitI .xor .i64 (shrI .i64 (IntKind.wrap .i64 ((IntKind.wrap .i64 (x2 * (6364136223846793005 : Int))) + (1442695040888963407 : Int))) (33 : Int)) (shrI .i64 (IntKind.wrap .i64 ((IntKind.wrap .i64 (x2 * (6364136223846793005 : Int))) + (1442695040888963407 : Int))) (45 : Int))) (255 : Int)) + (IntKind.wrap .i64 ((x0.getD x1.toNat 0))))) (255 : Int)), (IntKind.wrap .i64 (x1 + (1 : Int))), (IntKind.wrap .i64 ((IntKind.wrap .i64 (x2 * (6364136223846793005 : Int))) + (1442695040888963407 : Int))))
 else none
 else
 some ((bitI .and .i64 (bitI .xor .i64 (shrI .i64 (IntKind.wrap .i64 ((IntKind.wrap .i64 (x2 * (6364136223846793005 : Int))) + (1442695040888963407 : Int))) (33 : Int)) (shrI .i64 (IntKind.wrap .i64 ((IntKind.wrap .i64 (x2 * (6364136223846793005 : Int))) + (1442695040888963407 : Int))) (45 : Int))) (255 : Int)), x1, (IntKind.wrap .i64 ((IntKind.wrap .i64 (x2 * (6364136223846793005 : Int))) + (1442695040888963407 : Int))))
noncomputable def C175 : Con := ⟨[(.P [false, true, true], false, [(.sl R0), iI, iI])], [(false, [iI])], [(.sl R0), iI, iI], [iI, iI, iI], fun (p : List Int × Int × Int) => f_spec_l1Byte p.1 p.2.1 p.2.2⟩
noncomputable abbrev K175 : Cons := []
noncomputable abbrev L175 : List (Nat × Loops) := []
abbrev Q175 : List (Nat × List (Int × Nat) × Nat) := []
noncomputable abbrev X175 : Nat → Ctx := ctxOf tb K175 L175 Q175
theorem E175 : ∀ x, funG fs X175 6 175 C175 x = C175.fn x := fun x => by kernel_rfl
theorem B175 : ConG Tryz.prog 175 C175 := ConG.make FS MIX TY (cons := K175) (L := L175) (ptrs := Q175) trivial trivial trivial rfl (by kernel_rfl) E175
theorem S175 : ConS Tryz.prog 175 C175 := B175.call (by kernel_rfl)
noncomputable def f_spec_l1Below (x0 : List Int) (x1 : Int) (x2 : Int) (x3 : Int) : Option (Int × Int × Int) :=
 bif (decide (x3 ≤ (0 : Int))) then
 some (0, x1, x2)
 else
 bif (decide (x3 ≤ (256 : Int))) then
 (f_spec_l1Byte x0 x1 x2).bind fun y0 =>
 bif (decide (x3 = (0 : Int))) then none else
 some ((Int.tmod y0.1 x3), y0.2.1, y0.2.2)
 else
 (f_spec_l1Byte x0 x1 x2).bind fun y1 =>
 (f_spec_l1Byte x0 y1.2.1 y1.2.2).bind fun y2 =>
 (f_spec_l1Byte x0 y2.2.1 y2.2.2).bind fun y3 =>
 (f_spec_l1Byte x0 y3.2.1 y3.2.2).bind fun y4 =>
 bif (decide (x3 = (0 : Int))) then none else
 some ((Int.tmod (IntKind.wrap .i64 ((IntKind.wrap .i64 ((IntKind.wrap .i64 ((IntKind.wrap .i64 (y1.1 * (16777216 : Int))) + (IntKind.wrap .i64 (y2.1 * (65536 : Int))))) + (IntKind.wrap .i64 (y3.1 * (256 : Int))))) + y4.1)) x3), y4.2.1, y4.2.2)
noncomputable def C106 : Con := ⟨[(.P [false, true, true], false, [(.sl R0), iI, iI]), (.B, false, [iI])], [(false, [iI])], [(.sl R0), iI, iI, iI], [iI, iI, iI], fun (p : List Int × Int × Int × Int) => f_spec_l1Below p.1 p.2.1 p.2.2.1 p.2.2.2⟩
noncomputable abbrev K106 : Cons := [(175, C175)]
noncomputable abbrev L106 : List (Nat × Loops) := []
abbrev Q106 : List (Nat × List (Int × Nat) × Nat) := []
noncomputable abbrev X106 : Nat → Ctx := ctxOf tb K106 L106 Q106
theorem E106 : ∀ x, funG fs X106 6 106 C106 x = C106.fn x := fun x => by kernel_rfl
theorem B106 : ConG Tryz.prog 106 C106 := ConG.make FS MIX TY (cons := K106) (L := L106) (ptrs := Q106) ⟨S175, trivial⟩ trivial trivial rfl (by kernel_rfl) E106
theorem S106 : ConS Tryz.prog 106 C106 := B106.call (by kernel_rfl)
noncomputable def f_spec_l1In (x0 : Int) (x1 : Int) (x2 : Int) : Option (Bool) :=
 bif (decide (x1 ≤ x0)) then
 some (decide (x0 ≤ x2))
 else
 some false
noncomputable def C60 : Con := ⟨[(.B, false, [iI]), (.B, false, [iI]), (.B, false, [iI])], [(false, [.bool])], [iI, iI, iI], [.bool], fun (p : Int × Int × Int) => f_spec_l1In p.1 p.2.1 p.2.2⟩
noncomputable abbrev K60 : Cons := []
noncomputable abbrev L60 : List (Nat × Loops) := []
abbrev Q60 : List (Nat × List (Int × Nat) × Nat) := []
noncomputable abbrev X60 : Nat → Ctx := ctxOf tb K60 L60 Q60
theorem E60 : ∀ x, funRun fs X60 6 60 C60 x = C60.fn x := fun x => by kernel_rfl
theorem B60 : ConB Tryz.prog 60 C60 := ConB.make FS MIX TY (cons := K60) (L := L60) (ptrs := Q60) trivial trivial trivial rfl rfl E60
theorem S60 : ConS Tryz.prog 60 C60 := B60.call rfl
noncomputable def f_spec_HomeNew (x0 : Int) : Option (List Int × Int × List Bool × Bool × Int × Bool × Int × tyW) :=
 (f_spec_l1In x0 1 4).bind fun y0 =>
 bif (!y0) then
 some ([], 0, [], false, 0, false, 0, [])
 else
 bif (decide ((0 : Int) ≤ x0) && Nat.ble x0.toNat 140737488355328) then
 some ((List.replicate 4 0), -1, (List.replicate x0.toNat false), false, 0, false, 0, [])
 else none
noncomputable def C134 : Con := ⟨[(.B, false, [iI])], [(true, [(.sl R1), iI, (.sl R2), .bool, iI, .bool, iI, (.sl R3)])], [iI], [(.sl R1), iI, (.sl R2), .bool, iI, .bool, iI, (.sl R3)], fun (p : Int) => f_spec_HomeNew p⟩
noncomputable abbrev K134 : Cons := [(60, C60)]
noncomputable abbrev L134 : List (Nat × Loops) := []
abbrev Q134 : List (Nat × List (Int × Nat) × Nat) := []
noncomputable abbrev X134 : Nat → Ctx := ctxOf tb K134 L134 Q134
theorem E134 : ∀ x, funRun fs X134 6 134 C134 x = C134.fn x := fun x => by kernel_rfl
theorem B134 : ConB Tryz.prog 134 C134 := ConB.make FS MIX TY (cons := K134) (L := L134) (ptrs := Q134) ⟨S60, trivial⟩ trivial trivial rfl rfl E134
theorem S134 : ConS Tryz.prog 134 C134 := B134.call rfl
noncomputable def f_spec_NodeNew.l0 : Nat → Int → Bool → Int → Int → Int → tyF → tyH → tyS → (List Int) → tyF → tyH → tyS → (List Int) → Option (Bool × Int × Int × tyF × tyH × tyS × List Int × tyF × tyH × tyS × List Int)
 | 0, _, _, _, _, _, _, _, _, _, _, _, _, _ => none
 | n + 1, p0, p1, p2, p3, p4, p5, p6, p7, p8, p9, p10, p11, p12 =>
 bif (decide (p2 < (6 : Int))) then
 (f_spec_HomeNew p0).bind fun y13 =>
 bif (Nat.blt (p10.length + ([(y13.1, y13.2.1, y13.2.2.1, y13.2.2.2.1, y13.2.2.2.2.1, y13.2.2.2.2.2.1, y13.2.2.2.2.2.2.1, y13.2.2.2.2.2.2.2)] : tyH).length) 1256584717458) then
 (some ((p10 ++ ([(y13.1, y13.2.1, y13.2.2.1, y13.2.2.2.1, y13.2.2.2.2.1, y13.2.2.2.2.2.1, y13.2.2.2.2.2.2.1, y13.2.2.2.2.2.2.2)] : tyH)) : tyH)).bind fun z14 =>
 f_spec_NodeNew.l0 n p0 p1 (IntKind.wrap .i64 (p2 + (1 : Int))) p3 p4 p5 p6 p7 p8 p9 z14 p11 p12
 else none
 else
 some (p1, p3, p4, p5, p6, p7, p8, p9, p10, p11, p12)
noncomputable def f_spec_NodeNew (x0 : Int) (x1 : Int) : Option (Int × tyF × tyH × tyS × List Int × Bool) :=
 (f_spec_l1In x1 1 4).bind fun y0 =>
 bif (!y0) then
 some (0, [], [], [], [], false)
 else
 (f_spec_l1In x0 0 (IntKind.wrap .i64 (x1 - (1 : Int)))).bind fun y1 =>
 bif (!y1) then
 some (0, [], [], [], [], false)
 else
 bif (decide ((0 : Int) ≤ x1) && Nat.ble x1.toNat 4398046511104) then
 bif (decide ((0 : Int) ≤ x1) && Nat.ble x1.toNat 17592186044416) then
 (f_spec_NodeNew.l0 N x1 false 0 0 x0 ([] : tyF) ([] : tyH) ([] : tyS) ([] : List Int) (List.replicate 6 (0, [], false)) ([] : tyH) (List.replicate x1.toNat (0, [])) (List.replicate x1.toNat 0)).bind fun r2 =>
 some (r2.2.2.1, r2.2.2.2.2.2.2.2.1, r2.2.2.2.2.2.2.2.2.1, r2.2.2.2.2.2.2.2.2.2.1, r2.2.2.2.2.2.2.2.2.2.2, true)
 else none
 else none
noncomputable def C51 : Con := ⟨[(.B, false, [iI]), (.B, false, [iI])], [(true, [iI, (.sl R4), (.sl R5), (.sl R7), (.sl R1)]), (false, [.bool])], [iI, iI], [iI, (.sl R4), (.sl R5), (.sl R7), (.sl R1), .bool], fun (p : Int × Int) => f_spec_NodeNew p.1 p.2⟩
noncomputable abbrev f_spec_NodeNew.l0.u (n : Nat) := fun (p : Int × Bool × Int × Int × Int × tyF × tyH × tyS × List Int × tyF × tyH × tyS × List Int) => f_spec_NodeNew.l0 n p.1 p.2.1 p.2.2.1 p.2.2.2.1 p.2.2.2.2.1 p.2.2.2.2.2.1 p.2.2.2.2.2.2.1 p.2.2.2.2.2.2.2.1 p.2.2.2.2.2.2.2.2.1 p.2.2.2.2.2.2.2.2.2.1 p.2.2.2.2.2.2.2.2.2.2.1 p.2.2.2.2.2.2.2.2.2.2.2.1 p.2.2.2.2.2.2.2.2.2.2.2.2
noncomputable def f_spec_NodeNew.l0.c : LoopCon := ⟨1000, 6, [1, 4, 5, 6, 7], ⟨[(1, i0), (4, .ptr 1000 0), (5, .bool false), (6, .ptr 1001 0), (7, i0)], [(1000, .box [i0, .ref 1002 [] none, .ref 1003 [] none, .ref 1004 [] none, .ref 1005 [] none]), (1001, .box [i0, .ref 1006 [] none, .ref 1007 [] none, .ref 1008 [] none, .ref 1009 [] none]), (1002, .row R4 []), (1003, .row R5 []), (1004, .row R7 []), (1005, .row R1 []), (1006, .row R4 []), (1007, .row R5 []), (1008, .row R7 []), (1009, .row R1 [])], 1010⟩, [iI, .bool, iI, iI, iI, (.sl R4), (.sl R5), (.sl R7), (.sl R1), (.sl R4), (.sl R5), (.sl R7), (.sl R1)], [⟨.exit 0, [4, 5, 6], ⟨[(4, .ptr 1000 0), (5, .bool false), (6, .ptr 1001 0)], [(1000, .box [i0, .ref 1002 [] none, .ref 1003 [] none, .ref 1004 [] none, .ref 1005 [] none]), (1001, .box [i0, .ref 1006 [] none, .ref 1007 [] none, .ref 1008 [] none, .ref 1009 [] none]), (1002, .row R4 []), (1003, .row R5 []), (1004, .row R7 []), (1005, .row R1 []), (1006, .row R4 []), (1007, .row R5 []), (1008, .row R7 []), (1009, .row R1 [])], 1010⟩, [.bool, iI, iI, (.sl R4), (.sl R5), (.sl R7), (.sl R1), (.sl R4), (.sl R5), (.sl R7), (.sl R1)]⟩], f_spec_NodeNew.l0.u N⟩
noncomputable abbrev K51 : Cons := [(60, C60), (134, C134)]
noncomputable abbrev L51 : List (Nat × Loops) := [(51, [(5, f_spec_NodeNew.l0.c)])]
abbrev Q51 : List (Nat × List (Int × Nat) × Nat) := []
noncomputable abbrev X51 : Nat → Ctx := ctxOf tb K51 L51 Q51
theorem f_spec_NodeNew.l0.ok : ∀ n p, f_spec_NodeNew.l0.u n p = iterD (roundOf fs X51 6 51 5 false f_spec_NodeNew.l0.c) n p :=
 iter_of (l := f_spec_NodeNew.l0.u) (fun _ => rfl) (fun n p => by kernel_rfl)
theorem E51 : ∀ x, funRun fs X51 6 51 C51 x = C51.fn x := fun x => by kernel_rfl
theorem B51 : ConB Tryz.prog 51 C51 := ConB.make FS MIX TY (cons := K51) (L := L51) (ptrs := Q51) ⟨S60, S134, trivial⟩ trivial ⟨⟨⟨N, fun p => f_spec_NodeNew.l0.ok N p⟩, trivial⟩, trivial⟩ rfl rfl E51
theorem S51 : ConS Tryz.prog 51 C51 := B51.call rfl
noncomputable def f_spec_WorldNew.l0 : Nat → Int → Bool → Int → Int → Int → tyN → tyP → tyN → tyP → Option (Bool × Int × Int × tyN × tyP × tyN × tyP)
 | 0, _, _, _, _, _, _, _, _, _ => none
 | n + 1, p0, p1, p2, p3, p4, p5, p6, p7, p8 =>
 bif (decide (p2 < p0)) then
 (f_spec_NodeNew p2 p0).bind fun y9 =>
 bif (Nat.blt (p7.length + ([(y9.1, y9.2.1, y9.2.2.1, y9.2.2.2.1, y9.2.2.2.2.1)] : tyN).length) 1353245080339) then
 (some ((p7 ++ ([(y9.1, y9.2.1, y9.2.2.1, y9.2.2.2.1, y9.2.2.2.2.1)] : tyN)) : tyN)).bind fun z10 =>
 f_spec_WorldNew.l0 n p0 p1 (IntKind.wrap .i64 (p2 + (1 : Int))) p3 p4 p5 p6 z10 p8
 else none
 else
 some (p1, p3, p4, p5, p6, p7, p8)
noncomputable def f_spec_WorldNew (x0 : Int) : Option (Int × tyN × tyP × Bool) :=
 (f_spec_l1In x0 1 4).bind fun y0 =>
 bif (!y0) then
 some (0, [], [], false)
 else
 (f_spec_WorldNew.l0 N x0 false 0 0 x0 ([] : tyN) ([] : tyP) ([] : tyN) ([] : tyP)).bind fun r1 =>
 some (r1.2.2.1, r1.2.2.2.2.2.1, r1.2.2.2.2.2.2, true)
noncomputable def C219 : Con := ⟨[(.B, false, [iI])], [(true, [iI, (.sl R8), (.sl R9)]), (false, [.bool])], [iI], [iI, (.sl R8), (.sl R9), .bool], fun (p : Int) => f_spec_WorldNew p⟩
noncomputable abbrev f_spec_WorldNew.l0.u (n : Nat) := fun (p : Int × Bool × Int × Int × Int × tyN × tyP × tyN × tyP) => f_spec_WorldNew.l0 n p.1 p.2.1 p.2.2.1 p.2.2.2.1 p.2.2.2.2.1 p.2.2.2.2.2.1 p.2.2.2.2.2.2.1 p.2.2.2.2.2.2.2.1 p.2.2.2.2.2.2.2.2
noncomputable def f_spec_WorldNew.l0.c : LoopCon := ⟨1000, 6, [0, 2, 3, 4, 5], ⟨[(0, i0), (2, .ptr 1000 0), (3, .bool false), (4, .ptr 1001 0), (5, i0)], [(1000, .box [i0, .ref 1002 [] none, .ref 1003 [] none]), (1001, .box [i0, .ref 1004 [] none, .ref 1005 [] none]), (1002, .row R8 []), (1003, .row R9 []), (1004, .row R8 []), (1005, .row R9 [])], 1006⟩, [iI, .bool, iI, iI, iI, (.sl R8), (.sl R9), (.sl R8), (.sl R9)], [⟨.exit 0, [2, 3, 4], ⟨[(2, .ptr 1000 0), (3, .bool false), (4, .ptr 1001 0)], [(1000, .box [i0, .ref 1002 [] none, .ref 1003 [] none]), (1001, .box [i0, .ref 1004 [] none, .ref 1005 [] none]), (1002, .row R8 []), (1003, .row R9 []), (1004, .row R8 []), (1005, .row R9 [])], 1006⟩, [.bool, iI, iI, (.sl R8), (.sl R9), (.sl R8), (.sl R9)]⟩], f_spec_WorldNew.l0.u N⟩
noncomputable abbrev K219 : Cons := [(51, C51), (60, C60)]
noncomputable abbrev L219 : List (Nat × Loops) := [(219, [(5, f_spec_WorldNew.l0.c)])]
abbrev Q219 : List (Nat × List (Int × Nat) × Nat) := []
noncomputable abbrev X219 : Nat → Ctx := ctxOf tb K219 L219 Q219
theorem f_spec_WorldNew.l0.ok : ∀ n p, f_spec_WorldNew.l0.u n p = iterD (roundOf fs X219 6 219 5 false f_spec_WorldNew.l0.c) n p :=
 iter_of (l := f_spec_WorldNew.l0.u) (fun _ => rfl) (fun n p => by kernel_rfl)
theorem E219 : ∀ x, funRun fs X219 6 219 C219 x = C219.fn x := fun x => by kernel_rfl
theorem B219 : ConB Tryz.prog 219 C219 := ConB.make FS MIX TY (cons := K219) (L := L219) (ptrs := Q219) ⟨S51, S60, trivial⟩ trivial ⟨⟨⟨N, fun p => f_spec_WorldNew.l0.ok N p⟩, trivial⟩, trivial⟩ rfl rfl E219
theorem S219 : ConS Tryz.prog 219 C219 := B219.call rfl
noncomputable def f_spec_l1Max (x0 : Int) (x1 : Int) : Option (Int) :=
 bif (decide (x1 < x0)) then
 some x0
 else
 some x1
noncomputable def C223 : Con := ⟨[(.B, false, [iI]), (.B, false, [iI])], [(false, [iI])], [iI, iI], [iI], fun (p : Int × Int) => f_spec_l1Max p.1 p.2⟩
noncomputable abbrev K223 : Cons := []
noncomputable abbrev L223 : List (Nat × Loops) := []
abbrev Q223 : List (Nat × List (Int × Nat) × Nat) := []
noncomputable abbrev X223 : Nat → Ctx := ctxOf tb K223 L223 Q223
theorem E223 : ∀ x, funRun fs X223 6 223 C223 x = C223.fn x := fun x => by kernel_rfl
theorem B223 : ConB Tryz.prog 223 C223 := ConB.make FS MIX TY (cons := K223) (L := L223) (ptrs := Q223) trivial trivial trivial rfl rfl E223
theorem S223 : ConS Tryz.prog 223 C223 := B223.call rfl
noncomputable def f_spec_l1Once (x0 : List Int) (x1 : Int) (x2 : Int) (x3 : Int) : Option (Bool × Int × Int) :=
 (f_spec_l1Below x0 x1 x2 x3).bind fun y0 =>
 some ((decide (y0.1 = (0 : Int))), y0.2.1, y0.2.2)
noncomputable def C109 : Con := ⟨[(.P [false, true, true], false, [(.sl R0), iI, iI]), (.B, false, [iI])], [(false, [.bool])], [(.sl R0), iI, iI, iI], [.bool, iI, iI], fun (p : List Int × Int × Int × Int) => f_spec_l1Once p.1 p.2.1 p.2.2.1 p.2.2.2⟩
noncomputable abbrev K109 : Cons := [(106, C106)]
noncomputable abbrev L109 : List (Nat × Loops) := []
abbrev Q109 : List (Nat × List (Int × Nat) × Nat) := []
noncomputable abbrev X109 : Nat → Ctx := ctxOf tb K109 L109 Q109
theorem E109 : ∀ x, funG fs X109 6 109 C109 x = C109.fn x := fun x => by kernel_rfl
theorem B109 : ConG Tryz.prog 109 C109 := ConG.make FS MIX TY (cons := K109) (L := L109) (ptrs := Q109) ⟨S106, trivial⟩ trivial trivial rfl (by kernel_rfl) E109
theorem S109 : ConS Tryz.prog 109 C109 := B109.call (by kernel_rfl)
noncomputable def f_spec_l6DrawDeed.l0 : Nat → Int → Int → Int → (List Int) → Int → Int → Int → tyN → tyP → Int → Int → Int → Int → Option ((List Int × Int × Int × Int × Int × Int × Int) ⊕ (List Int × Int × Int × Int × Int × Int × Int))
 | 0, _, _, _, _, _, _, _, _, _, _, _, _, _ => none
 | n + 1, p0, p1, p2, p3, p4, p5, p6, p7, p8, p9, p10, p11, p12 =>
 bif (decide (p2 < (4 : Int))) then
 (f_spec_l1Below p3 p4 p5 p0).bind fun y13 =>
 bif (decide (p1 < (p7.length : Int))) then
 bif ((decide ((0 : Int) ≤ p1)) && (decide (p1 < (p7.length : Int)))) then
 bif (decide (y13.1 < (((p7.getD p1.toNat (0, [], [], [], [])).2.2.2.1).length : Int))) then
 bif ((decide ((0 : Int) ≤ p1)) && (decide (p1 < (p7.length : Int)))) then
 bif ((decide ((0 : Int) ≤ y13.1)) && (decide (y13.1 < (((p7.getD p1.toNat (0, [], [], [], [])).2.2.2.1).length : Int)))) then
 bif (decide ((0 : Int) < (((((p7.getD p1.toNat (0, [], [], [], [])).2.2.2.1).getD y13.1.toNat (0, [])).2).length : Int))) then
 bif ((decide ((0 : Int) ≤ p1)) && (decide (p1 < (p7.length : Int)))) then
 bif ((decide ((0 : Int) ≤ y13.1)) && (decide (y13.1 < (((p7.getD p1.toNat (0, [], [], [], [])).2.2.2.1).length : Int)))) then
 (f_spec_l1Below p3 y13.2.1 y13.2.2 (((((p7.getD p1.toNat (0, [], [], [], [])).2.2.2.1).getD y13.1.toNat (0, [])).2).length : Int)).bind fun y14 =>
 some (.inl (p3, y14.2.1, y14.2.2, 1, p1, y13.1, y14.1))
 else none
 else none
 else
 (f_spec_l1Below p3 y13.2.1 y13.2.2 p0).bind fun y15 =>
 f_spec_l6DrawDeed.l0 n p0 y15.1 (IntKind.wrap .i64 (p2 + (1 : Int))) p3 y15.2.1 y15.2.2 p6 p7 p8 p9 p10 p11 p12
 else none
 else none
 else
 (f_spec_l1Below p3 y13.2.1 y13.2.2 p0).bind fun y16 =>
 f_spec_l6DrawDeed.l0 n p0 y16.1 (IntKind.wrap .i64 (p2 + (1 : Int))) p3 y16.2.1 y16.2.2 p6 p7 p8 p9 p10 p11 p12
 else none
 else
 (f_spec_l1Below p3 y13.2.1 y13.2.2 p0).bind fun y17 =>
 f_spec_l6DrawDeed.l0 n p0 y17.1 (IntKind.wrap .i64 (p2 + (1 : Int))) p3 y17.2.1 y17.2.2 p6 p7 p8 p9 p10 p11 p12
 else
 some (.inr (p3, p4, p5, p9, p10, p11, p12))
noncomputable def f_spec_l6DrawDeed (x0 : List Int) (x1 : Int) (x2 : Int) (x3 : Int) (x4 : tyN) (x5 : tyP) : Option (Int × Int × Int × Int × Int × Int) :=
 (f_spec_l1Max x3 1).bind fun y0 =>
 (f_spec_l1Below x0 x1 x2 y0).bind fun y1 =>
 (f_spec_l1Below x0 y1.2.1 y1.2.2 12).bind fun y2 =>
 bif (decide (y2.1 = (0 : Int))) then
 (f_spec_l1Below x0 y2.2.1 y2.2.2 3).bind fun y3 =>
 (f_spec_l1Below x0 y3.2.1 y3.2.2 2).bind fun y4 =>
 some (6, y1.1, y3.1, y4.1, y4.2.1, y4.2.2)
 else
 bif (decide (y2.1 = (1 : Int))) then
 (f_spec_l1Below x0 y2.2.1 y2.2.2 3).bind fun y5 =>
 (f_spec_l1Below x0 y5.2.1 y5.2.2 2).bind fun y6 =>
 some (6, y1.1, y5.1, y6.1, y6.2.1, y6.2.2)
 else
 bif (decide (y2.1 = (2 : Int))) then
 (f_spec_l1Below x0 y2.2.1 y2.2.2 3).bind fun y7 =>
 (f_spec_l1Below x0 y7.2.1 y7.2.2 2).bind fun y8 =>
 some (6, y1.1, y7.1, y8.1, y8.2.1, y8.2.2)
 else
 bif (decide (y2.1 = (3 : Int))) then
 (f_spec_l1Below x0 y2.2.1 y2.2.2 y0).bind fun y9 =>
 some (2, y1.1, y9.1, 0, y9.2.1, y9.2.2)
 else
 bif (decide (y2.1 = (4 : Int))) then
 (f_spec_l1Once x0 y2.2.1 y2.2.2 2).bind fun y10 =>
 bif y10.1 then
 (f_spec_l1Max (x5.length : Int) 1).bind fun y11 =>
 (f_spec_l1Below x0 y10.2.1 y10.2.2 y11).bind fun y12 =>
 some (4, y12.1, 0, 0, y12.2.1, y12.2.2)
 else
 (f_spec_l1Max (x5.length : Int) 1).bind fun y13 =>
 (f_spec_l1Below x0 y10.2.1 y10.2.2 y13).bind fun y14 =>
 some (5, y14.1, 0, 0, y14.2.1, y14.2.2)
 else
 bif (decide (y2.1 = (5 : Int))) then
 (f_spec_l1Max (x5.length : Int) 1).bind fun y15 =>
 (f_spec_l1Below x0 y2.2.1 y2.2.2 y15).bind fun y16 =>
 some (3, y16.1, 0, 0, y16.2.1, y16.2.2)
 else
 bif (decide (y2.1 = (6 : Int))) then
 (f_spec_l1Max (x5.length : Int) 1).bind fun y17 =>
 (f_spec_l1Below x0 y2.2.1 y2.2.2 y17).bind fun y18 =>
 some (3, y18.1, 0, 0, y18.2.1, y18.2.2)
 else
 bif (decide (y2.1 = (7 : Int))) then
 (f_spec_l1Max (x5.length : Int) 1).bind fun y19 =>
 (f_spec_l1Below x0 y2.2.1 y2.2.2 y19).bind fun y20 =>
 some (3, y20.1, 0, 0, y20.2.1, y20.2.2)
 else
 bif (decide (y2.1 = (8 : Int))) then
 (f_spec_l1Max (x5.length : Int) 1).bind fun y21 =>
 (f_spec_l1Below x0 y2.2.1 y2.2.2 y21).bind fun y22 =>
 some (3, y22.1, 0, 0, y22.2.1, y22.2.2)
 else
 (f_spec_l6DrawDeed.l0 N y0 y1.1 0 x0 y2.2.1 y2.2.2 x3 x4 x5 0 0 0 0).bind fun r23 =>
 cs r23 (fun a24 =>
 some (a24.2.2.2.1, a24.2.2.2.2.1, a24.2.2.2.2.2.1, a24.2.2.2.2.2.2, a24.2.1, a24.2.2.1)) (fun b25 =>
 some (3, 0, 0, 0, b25.2.1, b25.2.2.1))
noncomputable def C220 : Con := ⟨[(.P [false, true, true], false, [(.sl R0), iI, iI]), (.B, true, [iI, (.sl R8), (.sl R9)])], [(true, [iI, iI, iI, iI])], [(.sl R0), iI, iI, iI, (.sl R8), (.sl R9)], [iI, iI, iI, iI, iI, iI], fun (p : List Int × Int × Int × Int × tyN × tyP) => f_spec_l6DrawDeed p.1 p.2.1 p.2.2.1 p.2.2.2.1 p.2.2.2.2.1 p.2.2.2.2.2⟩
noncomputable abbrev f_spec_l6DrawDeed.l0.u (n : Nat) := fun (p : Int × Int × Int × List Int × Int × Int × Int × tyN × tyP × Int × Int × Int × Int) => f_spec_l6DrawDeed.l0 n p.1 p.2.1 p.2.2.1 p.2.2.2.1 p.2.2.2.2.1 p.2.2.2.2.2.1 p.2.2.2.2.2.2.1 p.2.2.2.2.2.2.2.1 p.2.2.2.2.2.2.2.2.1 p.2.2.2.2.2.2.2.2.2.1 p.2.2.2.2.2.2.2.2.2.2.1 p.2.2.2.2.2.2.2.2.2.2.2.1 p.2.2.2.2.2.2.2.2.2.2.2.2
noncomputable def f_spec_l6DrawDeed.l0.c : LoopCon := ⟨1000, 6, [0, 3, 4, 5, 6, 7], ⟨[(0, .ptr 500 0), (3, .ptr 1000 0), (4, .ptr 1001 0), (5, i0), (6, i0), (7, i0)], [(500, .box [.bor (some 0) R0 [], i0, i0]), (1000, .box [i0, bN R8, bN R9]), (1001, .box [i0, i0, i0, i0])], 1002⟩, [iI, iI, iI, (.sl R0), iI, iI, iI, (.sl R8), (.sl R9), iI, iI, iI, iI], [⟨.ret, [4], ⟨[(4, .ptr 1000 0)], [(500, .box [.bor (some 0) R0 [], i0, i0]), (1000, .box [i0, i0, i0, i0])], 1001⟩, [(.sl R0), iI, iI, iI, iI, iI, iI]⟩, ⟨.exit 1, [4], ⟨[(4, .ptr 1000 0)], [(500, .box [.bor (some 0) R0 [], i0, i0]), (1000, .box [i0, i0, i0, i0])], 1001⟩, [(.sl R0), iI, iI, iI, iI, iI, iI]⟩], f_spec_l6DrawDeed.l0.u N⟩
noncomputable abbrev K220 : Cons := [(106, C106), (109, C109), (223, C223)]
noncomputable abbrev L220 : List (Nat × Loops) := [(220, [(20, f_spec_l6DrawDeed.l0.c)])]
abbrev Q220 : List (Nat × List (Int × Nat) × Nat) := []
noncomputable abbrev X220 : Nat → Ctx := ctxOf tb K220 L220 Q220
theorem f_spec_l6DrawDeed.l0.ok : ∀ n p, f_spec_l6DrawDeed.l0.u n p = iterD (roundOf fs X220 6 220 20 false f_spec_l6DrawDeed.l0.c) n p :=
 iter_of (l := f_spec_l6DrawDeed.l0.u) (fun _ => rfl) (fun n p => by kernel_rfl)
theorem E220 : ∀ x, funG fs X220 6 220 C220 x = C220.fn x := fun x => by kernel_rfl
theorem B220 : ConG Tryz.prog 220 C220 := ConG.make FS MIX TY (cons := K220) (L := L220) (ptrs := Q220) ⟨S106, S109, S223, trivial⟩ trivial ⟨⟨⟨N, fun p => f_spec_l6DrawDeed.l0.ok N p⟩, trivial⟩, trivial⟩ rfl (by kernel_rfl) E220
theorem S220 : ConS Tryz.prog 220 C220 := B220.call (by kernel_rfl)
noncomputable def f_spec_l1Words.l0 : Nat → (List Int) → Int → Bool → Int → Option ((Bool) ⊕ (List Int × Int × Bool))
 | 0, _, _, _, _ => none
 | n + 1, p0, p1, p2, p3 =>
 bif (decide (p3 < (p0.length : Int))) then
 bif ((decide ((0 : Int) ≤ p3)) && (decide (p3 < (p0.length : Int)))) then
 (f_spec_l1In (p0.getD p3.toNat 0) 0 65535).bind fun y4 =>
 bif (!y4) then
 some (.inl false)
 else
 f_spec_l1Words.l0 n p0 p1 p2 (IntKind.wrap .i64 (p3 + (1 : Int)))
 else none
 else
 some (.inr (p0, p1, p2))
noncomputable def f_spec_l1Words (x0 : List Int) (x1 : Int) : Option (Bool) :=
 (f_spec_l1Words.l0 N x0 x1 false 0).bind fun r0 =>
 cs r0 (fun a1 =>
 some a1) (fun b2 =>
 some (decide ((b2.1.length : Int) = b2.2.1)))
noncomputable def C182 : Con := ⟨[(.B, false, [(.sl R1)]), (.B, false, [iI])], [(false, [.bool])], [(.sl R1), iI], [.bool], fun (p : List Int × Int) => f_spec_l1Words p.1 p.2⟩
noncomputable abbrev f_spec_l1Words.l0.u (n : Nat) := fun (p : List Int × Int × Bool × Int) => f_spec_l1Words.l0 n p.1 p.2.1 p.2.2.1 p.2.2.2
noncomputable def f_spec_l1Words.l0.c : LoopCon := ⟨1000, 6, [0, 1, 4, 5], ⟨[(0, bN R1), (1, i0), (4, .bool false), (5, i0)], [], 1000⟩, [(.sl R1), iI, .bool, iI], [⟨.ret, [4], ⟨[(4, .bool false)], [], 1000⟩, [.bool]⟩, ⟨.exit 0, [0, 1, 4], ⟨[(0, bN R1), (1, i0), (4, .bool false)], [], 1000⟩, [(.sl R1), iI, .bool]⟩], f_spec_l1Words.l0.u N⟩
noncomputable abbrev K182 : Cons := [(60, C60)]
noncomputable abbrev L182 : List (Nat × Loops) := [(182, [(2, f_spec_l1Words.l0.c)])]
abbrev Q182 : List (Nat × List (Int × Nat) × Nat) := []
noncomputable abbrev X182 : Nat → Ctx := ctxOf tb K182 L182 Q182
theorem f_spec_l1Words.l0.ok : ∀ n p, f_spec_l1Words.l0.u n p = iterD (roundOf fs X182 6 182 2 false f_spec_l1Words.l0.c) n p :=
 iter_of (l := f_spec_l1Words.l0.u) (fun _ => rfl) (fun n p => by kernel_rfl)
theorem E182 : ∀ x, funRun fs X182 6 182 C182 x = C182.fn x := fun x => by kernel_rfl
theorem B182 : ConB Tryz.prog 182 C182 := ConB.make FS MIX TY (cons := K182) (L := L182) (ptrs := Q182) ⟨S60, trivial⟩ trivial ⟨⟨⟨N, fun p => f_spec_l1Words.l0.ok N p⟩, trivial⟩, trivial⟩ rfl rfl E182
theorem S182 : ConS Tryz.prog 182 C182 := B182.call rfl
noncomputable def f_spec_FrameOk (x0 : Int) (x1 : List Int) (x2 : Bool) : Option (Bool) :=
 bif (decide (x0 = (0 : Int))) then
 some (decide ((x1.length : Int) = (0 : Int)))
 else
 (f_spec_l1In x0 0 2).bind fun y0 =>
 bif y0 then
 (f_spec_l1Words x1 4).bind fun y1 =>
 some y1
 else
 some false
noncomputable def C130 : Con := ⟨[(.B, true, [iI, (.sl R1), .bool])], [(false, [.bool])], [iI, (.sl R1), .bool], [.bool], fun (p : Int × List Int × Bool) => f_spec_FrameOk p.1 p.2.1 p.2.2⟩
noncomputable abbrev K130 : Cons := [(60, C60), (182, C182)]
noncomputable abbrev L130 : List (Nat × Loops) := []
abbrev Q130 : List (Nat × List (Int × Nat) × Nat) := []
noncomputable abbrev X130 : Nat → Ctx := ctxOf tb K130 L130 Q130
theorem E130 : ∀ x, funRun fs X130 6 130 C130 x = C130.fn x := fun x => by kernel_rfl
theorem B130 : ConB Tryz.prog 130 C130 := ConB.make FS MIX TY (cons := K130) (L := L130) (ptrs := Q130) ⟨S60, S182, trivial⟩ trivial trivial rfl rfl E130
theorem S130 : ConS Tryz.prog 130 C130 := B130.call rfl
noncomputable def f_spec_HomeOk.l0 : Nat → Int → Bool → Int → (List Int) → Int → (List Bool) → Bool → Int → Bool → Int → tyW → Option ((Bool) ⊕ (Bool))
 | 0, _, _, _, _, _, _, _, _, _, _, _ => none
 | n + 1, p0, p1, p2, p3, p4, p5, p6, p7, p8, p9, p10 =>
 bif (decide (p2 < (p10.length : Int))) then
 bif ((decide ((0 : Int) ≤ p2)) && (decide (p2 < (p10.length : Int)))) then
 (f_spec_l1In ((p10.getD p2.toNat (0, false)).1) 0 (IntKind.wrap .i64 (p0 - (1 : Int)))).bind fun y11 =>
 bif (!y11) then
 some (.inl false)
 else
 f_spec_HomeOk.l0 n p0 p1 (IntKind.wrap .i64 (p2 + (1 : Int))) p3 p4 p5 p6 p7 p8 p9 p10
 else none
 else
 some (.inr p1)
noncomputable def f_spec_HomeOk (x0 : List Int) (x1 : Int) (x2 : List Bool) (x3 : Bool) (x4 : Int) (x5 : Bool) (x6 : Int) (x7 : tyW) (x8 : Int) : Option (Bool) :=
 (f_spec_l1In x8 1 4).bind fun y0 =>
 bif (!y0) then
 some false
 else
 (f_spec_l1Words x0 4).bind fun y1 =>
 bif (!y1) then
 some false
 else
 (f_spec_l1In x1 (-1) (IntKind.wrap .i64 (x8 - (1 : Int)))).bind fun y2 =>
 bif (!y2) then
 some false
 else
 bif (!(decide ((x2.length : Int) = x8))) then
 some false
 else
 (f_spec_l1In x4 0 (IntKind.wrap .i64 (x8 - (1 : Int)))).bind fun y3 =>
 bif (!y3) then
 some false
 else
 (f_spec_l1In x6 0 x8).bind fun y4 =>
 bif (!y4) then
 some false
 else
 bif (decide ((12 : Int) < (x7.length : Int))) then
 some false
 else
 (f_spec_HomeOk.l0 N x8 false 0 x0 x1 x2 x3 x4 x5 x6 x7).bind fun r5 =>
 cs r5 (fun a6 =>
 some a6) (fun b7 =>
 some true)
noncomputable def C131 : Con := ⟨[(.B, true, [(.sl R1), iI, (.sl R2), .bool, iI, .bool, iI, (.sl R3)]), (.B, false, [iI])], [(false, [.bool])], [(.sl R1), iI, (.sl R2), .bool, iI, .bool, iI, (.sl R3), iI], [.bool], fun (p : List Int × Int × List Bool × Bool × Int × Bool × Int × tyW × Int) => f_spec_HomeOk p.1 p.2.1 p.2.2.1 p.2.2.2.1 p.2.2.2.2.1 p.2.2.2.2.2.1 p.2.2.2.2.2.2.1 p.2.2.2.2.2.2.2.1 p.2.2.2.2.2.2.2.2⟩
noncomputable abbrev f_spec_HomeOk.l0.u (n : Nat) := fun (p : Int × Bool × Int × List Int × Int × List Bool × Bool × Int × Bool × Int × tyW) => f_spec_HomeOk.l0 n p.1 p.2.1 p.2.2.1 p.2.2.2.1 p.2.2.2.2.1 p.2.2.2.2.2.1 p.2.2.2.2.2.2.1 p.2.2.2.2.2.2.2.1 p.2.2.2.2.2.2.2.2.1 p.2.2.2.2.2.2.2.2.2.1 p.2.2.2.2.2.2.2.2.2.2
noncomputable def f_spec_HomeOk.l0.c : LoopCon := ⟨1000, 6, [1, 2, 4, 5], ⟨[(1, i0), (2, .ptr 1000 0), (4, .bool false), (5, i0)], [(1000, .box [bN R1, i0, bN R2, .bool false, i0, .bool false, i0, bN R3])], 1001⟩, [iI, .bool, iI, (.sl R1), iI, (.sl R2), .bool, iI, .bool, iI, (.sl R3)], [⟨.ret, [4], ⟨[(4, .bool false)], [], 1000⟩, [.bool]⟩, ⟨.exit 0, [4], ⟨[(4, .bool false)], [], 1000⟩, [.bool]⟩], f_spec_HomeOk.l0.u N⟩
noncomputable abbrev K131 : Cons := [(60, C60), (182, C182)]
noncomputable abbrev L131 : List (Nat × Loops) := [(131, [(4, f_spec_HomeOk.l0.c)])]
abbrev Q131 : List (Nat × List (Int × Nat) × Nat) := []
noncomputable abbrev X131 : Nat → Ctx := ctxOf tb K131 L131 Q131
theorem f_spec_HomeOk.l0.ok : ∀ n p, f_spec_HomeOk.l0.u n p = iterD (roundOf fs X131 6 131 4 false f_spec_HomeOk.l0.c) n p :=
 iter_of (l := f_spec_HomeOk.l0.u) (fun _ => rfl) (fun n p => by kernel_rfl)
theorem E131 : ∀ x, funRun fs X131 6 131 C131 x = C131.fn x := fun x => by kernel_rfl
theorem B131 : ConB Tryz.prog 131 C131 := ConB.make FS MIX TY (cons := K131) (L := L131) (ptrs := Q131) ⟨S60, S182, trivial⟩ trivial ⟨⟨⟨N, fun p => f_spec_HomeOk.l0.ok N p⟩, trivial⟩, trivial⟩ rfl rfl E131
theorem S131 : ConS Tryz.prog 131 C131 := B131.call rfl
noncomputable def f_spec_MsgOk (x0 : Int) (x1 : Int) (x2 : Bool) (x3 : List Int) : Option (Bool) :=
 bif (decide (x0 = (3 : Int))) then
 bif (decide (x0 = (3 : Int))) then
 (f_spec_l1In x0 1 7).bind fun y0 =>
 bif y0 then
 (f_spec_l1In x1 0 5).bind fun y1 =>
 bif y1 then
 (f_spec_l1Words x3 4).bind fun y2 =>
 some y2
 else
 some false
 else
 some false
 else
 (f_spec_l1In x0 1 7).bind fun y3 =>
 bif y3 then
 (f_spec_l1In x1 0 5).bind fun y4 =>
 bif y4 then
 bif (decide (x0 = (6 : Int))) then
 (f_spec_l1Words x3 4).bind fun y5 =>
 some y5
 else
 bif (!x2) then
 (f_spec_l1Words x3 4).bind fun y6 =>
 some y6
 else
 some false
 else
 some false
 else
 some false
 else
 bif (decide (x0 = (7 : Int))) then
 bif (decide (x0 = (3 : Int))) then
 (f_spec_l1In x0 1 7).bind fun y7 =>
 bif y7 then
 (f_spec_l1In x1 0 5).bind fun y8 =>
 bif y8 then
 (f_spec_l1Words x3 4).bind fun y9 =>
 some y9
 else
 some false
 else
 some false
 else
 (f_spec_l1In x0 1 7).bind fun y10 =>
 bif y10 then
 (f_spec_l1In x1 0 5).bind fun y11 =>
 bif y11 then
 bif (decide (x0 = (6 : Int))) then
 (f_spec_l1Words x3 4).bind fun y12 =>
 some y12
 else
 bif (!x2) then
 (f_spec_l1Words x3 4).bind fun y13 =>
 some y13
 else
 some false
 else
 some false
 else
 some false
 else
 bif (decide (x0 = (3 : Int))) then
 (f_spec_l1In x0 1 7).bind fun y14 =>
 bif y14 then
 (f_spec_l1In x1 0 5).bind fun y15 =>
 bif y15 then
 (f_spec_l1Words x3 0).bind fun y16 =>
 some y16
 else
 some false
 else
 some false
 else
 (f_spec_l1In x0 1 7).bind fun y17 =>
 bif y17 then
 (f_spec_l1In x1 0 5).bind fun y18 =>
 bif y18 then
 bif (decide (x0 = (6 : Int))) then
 (f_spec_l1Words x3 0).bind fun y19 =>
 some y19
 else
 bif (!x2) then
 (f_spec_l1Words x3 0).bind fun y20 =>
 some y20
 else
 some false
 else
 some false
 else
 some false
noncomputable def C113 : Con := ⟨[(.B, true, [iI, iI, .bool, (.sl R1)])], [(false, [.bool])], [iI, iI, .bool, (.sl R1)], [.bool], fun (p : Int × Int × Bool × List Int) => f_spec_MsgOk p.1 p.2.1 p.2.2.1 p.2.2.2⟩
noncomputable abbrev K113 : Cons := [(60, C60), (182, C182)]
noncomputable abbrev L113 : List (Nat × Loops) := []
abbrev Q113 : List (Nat × List (Int × Nat) × Nat) := []
noncomputable abbrev X113 : Nat → Ctx := ctxOf tb K113 L113 Q113
theorem E113 : ∀ x, funRun fs X113 6 113 C113 x = C113.fn x := fun x => by kernel_rfl
theorem B113 : ConB Tryz.prog 113 C113 := ConB.make FS MIX TY (cons := K113) (L := L113) (ptrs := Q113) ⟨S60, S182, trivial⟩ trivial trivial rfl rfl E113
theorem S113 : ConS Tryz.prog 113 C113 := B113.call rfl
noncomputable def f_spec_SenderOk.l0 : Nat → Bool → Int → Int → tyM → Option ((Bool) ⊕ (Bool × Int × tyM))
 | 0, _, _, _, _ => none
 | n + 1, p0, p1, p2, p3 =>
 bif (decide (p1 < (p3.length : Int))) then
 bif ((decide ((0 : Int) ≤ p1)) && (decide (p1 < (p3.length : Int)))) then
 (f_spec_MsgOk ((p3.getD p1.toNat (0, 0, false, [])).1) ((p3.getD p1.toNat (0, 0, false, [])).2.1) ((p3.getD p1.toNat (0, 0, false, [])).2.2.1) ((p3.getD p1.toNat (0, 0, false, [])).2.2.2)).bind fun y4 =>
 bif (!y4) then
 some (.inl false)
 else
 f_spec_SenderOk.l0 n p0 (IntKind.wrap .i64 (p1 + (1 : Int))) p2 p3
 else none
 else
 some (.inr (p0, p2, p3))
noncomputable def f_spec_SenderOk (x0 : Int) (x1 : tyM) : Option (Bool) :=
 (f_spec_SenderOk.l0 N false 0 x0 x1).bind fun r0 =>
 cs r0 (fun a1 =>
 some a1) (fun b2 =>
 (f_spec_l1In b2.2.1 0 100000).bind fun y3 =>
 bif y3 then
 bif (decide ((b2.2.2.length : Int) ≤ (30 : Int))) then
 some (decide ((IntKind.wrap .i64 (b2.2.1 + (b2.2.2.length : Int))) ≤ (100000 : Int)))
 else
 some false
 else
 some false)
noncomputable def C132 : Con := ⟨[(.B, true, [iI, (.sl R6)])], [(false, [.bool])], [iI, (.sl R6)], [.bool], fun (p : Int × tyM) => f_spec_SenderOk p.1 p.2⟩
noncomputable abbrev f_spec_SenderOk.l0.u (n : Nat) := fun (p : Bool × Int × Int × tyM) => f_spec_SenderOk.l0 n p.1 p.2.1 p.2.2.1 p.2.2.2
noncomputable def f_spec_SenderOk.l0.c : LoopCon := ⟨1000, 6, [1, 2, 3], ⟨[(1, .ptr 1000 0), (2, .bool false), (3, i0)], [(1000, .box [i0, bN R6])], 1001⟩, [.bool, iI, iI, (.sl R6)], [⟨.ret, [2], ⟨[(2, .bool false)], [], 1000⟩, [.bool]⟩, ⟨.exit 0, [1, 2], ⟨[(1, .ptr 1000 0), (2, .bool false)], [(1000, .box [i0, bN R6])], 1001⟩, [.bool, iI, (.sl R6)]⟩], f_spec_SenderOk.l0.u N⟩
noncomputable abbrev K132 : Cons := [(60, C60), (113, C113)]
noncomputable abbrev L132 : List (Nat × Loops) := [(132, [(2, f_spec_SenderOk.l0.c)])]
abbrev Q132 : List (Nat × List (Int × Nat) × Nat) := []
noncomputable abbrev X132 : Nat → Ctx := ctxOf tb K132 L132 Q132
theorem f_spec_SenderOk.l0.ok : ∀ n p, f_spec_SenderOk.l0.u n p = iterD (roundOf fs X132 6 132 2 false f_spec_SenderOk.l0.c) n p :=
 iter_of (l := f_spec_SenderOk.l0.u) (fun _ => rfl) (fun n p => by kernel_rfl)
theorem E132 : ∀ x, funRun fs X132 6 132 C132 x = C132.fn x := fun x => by kernel_rfl
theorem B132 : ConB Tryz.prog 132 C132 := ConB.make FS MIX TY (cons := K132) (L := L132) (ptrs := Q132) ⟨S60, S113, trivial⟩ trivial ⟨⟨⟨N, fun p => f_spec_SenderOk.l0.ok N p⟩, trivial⟩, trivial⟩ rfl rfl E132
theorem S132 : ConS Tryz.prog 132 C132 := B132.call rfl
noncomputable def f_spec_NodeOk.l1 : Nat → Int → Bool → Int → Int → tyF → tyH → tyS → (List Int) → Option ((Bool) ⊕ (Bool))
 | 0, _, _, _, _, _, _, _, _ => none
 | n + 1, p0, p1, p2, p3, p4, p5, p6, p7 =>
 bif (decide (p2 < p0)) then
 bif ((decide ((0 : Int) ≤ p2)) && (decide (p2 < (p6.length : Int)))) then
 (f_spec_SenderOk ((p6.getD p2.toNat (0, [])).1) ((p6.getD p2.toNat (0, [])).2)).bind fun y8 =>
 bif (!y8) then
 some (.inl false)
 else
 bif ((decide ((0 : Int) ≤ p2)) && (decide (p2 < (p7.length : Int)))) then
 (f_spec_l1In (p7.getD p2.toNat 0) 0 100000).bind fun y9 =>
 bif (!y9) then
 some (.inl false)
 else
 f_spec_NodeOk.l1 n p0 p1 (IntKind.wrap .i64 (p2 + (1 : Int))) p3 p4 p5 p6 p7
 else none
 else none
 else
 some (.inr p1)
noncomputable def f_spec_NodeOk.l0 : Nat → Int → Bool → Int → Int → tyF → tyH → tyS → (List Int) → Option ((Bool) ⊕ (Int × Bool × Int × tyF × tyH × tyS × List Int))
 | 0, _, _, _, _, _, _, _, _ => none
 | n + 1, p0, p1, p2, p3, p4, p5, p6, p7 =>
 bif (decide (p2 < (6 : Int))) then
 bif ((decide ((0 : Int) ≤ p2)) && (decide (p2 < (p4.length : Int)))) then
 (f_spec_FrameOk ((p4.getD p2.toNat (0, [], false)).1) ((p4.getD p2.toNat (0, [], false)).2.1) ((p4.getD p2.toNat (0, [], false)).2.2)).bind fun y8 =>
 bif (!y8) then
 some (.inl false)
 else
 bif ((decide ((0 : Int) ≤ p2)) && (decide (p2 < (p5.length : Int)))) then
 (f_spec_HomeOk ((p5.getD p2.toNat ([], 0, [], false, 0, false, 0, [])).1) ((p5.getD p2.toNat ([], 0, [], false, 0, false, 0, [])).2.1) ((p5.getD p2.toNat ([], 0, [], false, 0, false, 0, [])).2.2.1) ((p5.getD p2.toNat ([], 0, [], false, 0, false, 0, [])).2.2.2.1) ((p5.getD p2.toNat ([], 0, [], false, 0, false, 0, [])).2.2.2.2.1) ((p5.getD p2.toNat ([], 0, [], false, 0, false, 0, [])).2.2.2.2.2.1) ((p5.getD p2.toNat ([], 0, [], false, 0, false, 0, [])).2.2.2.2.2.2.1) ((p5.getD p2.toNat ([], 0, [], false, 0, false, 0, [])).2.2.2.2.2.2.2) p0).bind fun y9 =>
 bif (!y9) then
 some (.inl false)
 else
 f_spec_NodeOk.l0 n p0 p1 (IntKind.wrap .i64 (p2 + (1 : Int))) p3 p4 p5 p6 p7
 else none
 else none
 else
 some (.inr (p0, p1, p3, p4, p5, p6, p7))
noncomputable def f_spec_NodeOk (x0 : Int) (x1 : tyF) (x2 : tyH) (x3 : tyS) (x4 : List Int) (x5 : Int) : Option (Bool) :=
 (f_spec_l1In x5 1 4).bind fun y0 =>
 bif (!y0) then
 some false
 else
 (f_spec_l1In x0 0 (IntKind.wrap .i64 (x5 - (1 : Int)))).bind fun y1 =>
 bif (!y1) then
 some false
 else
 bif (!(decide ((x1.length : Int) = (6 : Int)))) then
 some false
 else
 bif (!(decide ((x2.length : Int) = (6 : Int)))) then
 some false
 else
 bif (!(decide ((x3.length : Int) = x5))) then
 some false
 else
 bif (!(decide ((x4.length : Int) = x5))) then
 some false
 else
 (f_spec_NodeOk.l0 N x5 false 0 x0 x1 x2 x3 x4).bind fun r2 =>
 cs r2 (fun a3 =>
 some a3) (fun b4 =>
 (f_spec_NodeOk.l1 N b4.1 b4.2.1 0 b4.2.2.1 b4.2.2.2.1 b4.2.2.2.2.1 b4.2.2.2.2.2.1 b4.2.2.2.2.2.2).bind fun r5 =>
 cs r5 (fun a6 =>
 some a6) (fun b7 =>
 some true))
noncomputable def C48 : Con := ⟨[(.B, true, [iI, (.sl R4), (.sl R5), (.sl R7), (.sl R1)]), (.B, false, [iI])], [(false, [.bool])], [iI, (.sl R4), (.sl R5), (.sl R7), (.sl R1), iI], [.bool], fun (p : Int × tyF × tyH × tyS × List Int × Int) => f_spec_NodeOk p.1 p.2.1 p.2.2.1 p.2.2.2.1 p.2.2.2.2.1 p.2.2.2.2.2⟩
noncomputable abbrev f_spec_NodeOk.l0.u (n : Nat) := fun (p : Int × Bool × Int × Int × tyF × tyH × tyS × List Int) => f_spec_NodeOk.l0 n p.1 p.2.1 p.2.2.1 p.2.2.2.1 p.2.2.2.2.1 p.2.2.2.2.2.1 p.2.2.2.2.2.2.1 p.2.2.2.2.2.2.2
noncomputable def f_spec_NodeOk.l0.c : LoopCon := ⟨1000, 6, [1, 2, 4, 5], ⟨[(1, i0), (2, .ptr 1000 0), (4, .bool false), (5, i0)], [(1000, .box [i0, bN R4, bN R5, bN R7, bN R1])], 1001⟩, [iI, .bool, iI, iI, (.sl R4), (.sl R5), (.sl R7), (.sl R1)], [⟨.ret, [4], ⟨[(4, .bool false)], [], 1000⟩, [.bool]⟩, ⟨.exit 0, [1, 2, 4], ⟨[(1, i0), (2, .ptr 1000 0), (4, .bool false)], [(1000, .box [i0, bN R4, bN R5, bN R7, bN R1])], 1001⟩, [iI, .bool, iI, (.sl R4), (.sl R5), (.sl R7), (.sl R1)]⟩], f_spec_NodeOk.l0.u N⟩
noncomputable abbrev f_spec_NodeOk.l1.u (n : Nat) := fun (p : Int × Bool × Int × Int × tyF × tyH × tyS × List Int) => f_spec_NodeOk.l1 n p.1 p.2.1 p.2.2.1 p.2.2.2.1 p.2.2.2.2.1 p.2.2.2.2.2.1 p.2.2.2.2.2.2.1 p.2.2.2.2.2.2.2
noncomputable def f_spec_NodeOk.l1.c : LoopCon := ⟨1000, 6, [1, 2, 4, 6], ⟨[(1, i0), (2, .ptr 1000 0), (4, .bool false), (6, i0)], [(1000, .box [i0, bN R4, bN R5, bN R7, bN R1])], 1001⟩, [iI, .bool, iI, iI, (.sl R4), (.sl R5), (.sl R7), (.sl R1)], [⟨.ret, [4], ⟨[(4, .bool false)], [], 1000⟩, [.bool]⟩, ⟨.exit 2, [4], ⟨[(4, .bool false)], [], 1000⟩, [.bool]⟩], f_spec_NodeOk.l1.u N⟩
noncomputable abbrev K48 : Cons := [(60, C60), (130, C130), (131, C131), (132, C132)]
noncomputable abbrev L48 : List (Nat × Loops) := [(48, [(4, f_spec_NodeOk.l0.c), (9, f_spec_NodeOk.l1.c)])]
abbrev Q48 : List (Nat × List (Int × Nat) × Nat) := []
noncomputable abbrev X48 : Nat → Ctx := ctxOf tb K48 L48 Q48
theorem f_spec_NodeOk.l0.ok : ∀ n p, f_spec_NodeOk.l0.u n p = iterD (roundOf fs X48 6 48 4 false f_spec_NodeOk.l0.c) n p :=
 iter_of (l := f_spec_NodeOk.l0.u) (fun _ => rfl) (fun n p => by kernel_rfl)
theorem f_spec_NodeOk.l1.ok : ∀ n p, f_spec_NodeOk.l1.u n p = iterD (roundOf fs X48 6 48 9 false f_spec_NodeOk.l1.c) n p :=
 iter_of (l := f_spec_NodeOk.l1.u) (fun _ => rfl) (fun n p => by kernel_rfl)
theorem E48 : ∀ x, funRun fs X48 6 48 C48 x = C48.fn x := fun x => by kernel_rfl
theorem B48 : ConB Tryz.prog 48 C48 := ConB.make FS MIX TY (cons := K48) (L := L48) (ptrs := Q48) ⟨S60, S130, S131, S132, trivial⟩ trivial ⟨⟨⟨N, fun p => f_spec_NodeOk.l0.ok N p⟩, ⟨N, fun p => f_spec_NodeOk.l1.ok N p⟩, trivial⟩, trivial⟩ rfl rfl E48
theorem S48 : ConS Tryz.prog 48 C48 := B48.call rfl
noncomputable def f_spec_PacketOk (x0 : Int) (x1 : Int) (x2 : Bool) (x3 : Int) (x4 : Int) (x5 : Int) (x6 : Bool) (x7 : List Int) (x8 : Int) : Option (Bool) :=
 (f_spec_l1In x8 1 4).bind fun y0 =>
 bif (!y0) then
 some false
 else
 (f_spec_l1In x0 0 (IntKind.wrap .i64 (x8 - (1 : Int)))).bind fun y1 =>
 bif (!y1) then
 some false
 else
 (f_spec_l1In x1 0 (IntKind.wrap .i64 (x8 - (1 : Int)))).bind fun y2 =>
 bif (!y2) then
 some false
 else
 (f_spec_l1In x3 0 100000).bind fun y3 =>
 bif (!y3) then
 some false
 else
 bif x2 then
 bif (decide (x4 = (0 : Int))) then
 bif (decide (x5 = (0 : Int))) then
 bif (!x6) then
 some (decide ((x7.length : Int) = (0 : Int)))
 else
 some false
 else
 some false
 else
 some false
 else
 (f_spec_MsgOk x4 x5 x6 x7).bind fun y4 =>
 some y4
noncomputable def C138 : Con := ⟨[(.B, true, [iI, iI, .bool, iI, iI, iI, .bool, (.sl R1)]), (.B, false, [iI])], [(false, [.bool])], [iI, iI, .bool, iI, iI, iI, .bool, (.sl R1), iI], [.bool], fun (p : Int × Int × Bool × Int × Int × Int × Bool × List Int × Int) => f_spec_PacketOk p.1 p.2.1 p.2.2.1 p.2.2.2.1 p.2.2.2.2.1 p.2.2.2.2.2.1 p.2.2.2.2.2.2.1 p.2.2.2.2.2.2.2.1 p.2.2.2.2.2.2.2.2⟩
noncomputable abbrev K138 : Cons := [(60, C60), (113, C113)]
noncomputable abbrev L138 : List (Nat × Loops) := []
abbrev Q138 : List (Nat × List (Int × Nat) × Nat) := []
noncomputable abbrev X138 : Nat → Ctx := ctxOf tb K138 L138 Q138
theorem E138 : ∀ x, funRun fs X138 6 138 C138 x = C138.fn x := fun x => by kernel_rfl
theorem B138 : ConB Tryz.prog 138 C138 := ConB.make FS MIX TY (cons := K138) (L := L138) (ptrs := Q138) ⟨S60, S113, trivial⟩ trivial trivial rfl rfl E138
theorem S138 : ConS Tryz.prog 138 C138 := B138.call rfl
noncomputable def f_spec_WorldOk.l1 : Nat → Bool → Int → Int → tyN → tyP → Option ((Bool) ⊕ (Bool))
 | 0, _, _, _, _, _ => none
 | n + 1, p0, p1, p2, p3, p4 =>
 bif (decide (p1 < (p4.length : Int))) then
 bif ((decide ((0 : Int) ≤ p1)) && (decide (p1 < (p4.length : Int)))) then
 (f_spec_PacketOk ((p4.getD p1.toNat (0, 0, false, 0, 0, 0, false, [])).1) ((p4.getD p1.toNat (0, 0, false, 0, 0, 0, false, [])).2.1) ((p4.getD p1.toNat (0, 0, false, 0, 0, 0, false, [])).2.2.1) ((p4.getD p1.toNat (0, 0, false, 0, 0, 0, false, [])).2.2.2.1) ((p4.getD p1.toNat (0, 0, false, 0, 0, 0, false, [])).2.2.2.2.1) ((p4.getD p1.toNat (0, 0, false, 0, 0, 0, false, [])).2.2.2.2.2.1) ((p4.getD p1.toNat (0, 0, false, 0, 0, 0, false, [])).2.2.2.2.2.2.1) ((p4.getD p1.toNat (0, 0, false, 0, 0, 0, false, [])).2.2.2.2.2.2.2) p2).bind fun y5 =>
 bif (!y5) then
 some (.inl false)
 else
 f_spec_WorldOk.l1 n p0 (IntKind.wrap .i64 (p1 + (1 : Int))) p2 p3 p4
 else none
 else
 some (.inr p0)
noncomputable def f_spec_WorldOk.l0 : Nat → Bool → Int → Int → tyN → tyP → Option ((Bool) ⊕ (Bool × Int × tyN × tyP))
 | 0, _, _, _, _, _ => none
 | n + 1, p0, p1, p2, p3, p4 =>
 bif (decide (p1 < p2)) then
 bif ((decide ((0 : Int) ≤ p1)) && (decide (p1 < (p3.length : Int)))) then
 (f_spec_NodeOk ((p3.getD p1.toNat (0, [], [], [], [])).1) ((p3.getD p1.toNat (0, [], [], [], [])).2.1) ((p3.getD p1.toNat (0, [], [], [], [])).2.2.1) ((p3.getD p1.toNat (0, [], [], [], [])).2.2.2.1) ((p3.getD p1.toNat (0, [], [], [], [])).2.2.2.2) p2).bind fun y5 =>
 bif (!y5) then
 some (.inl false)
 else
 bif ((decide ((0 : Int) ≤ p1)) && (decide (p1 < (p3.length : Int)))) then
 bif (!(decide (((p3.getD p1.toNat (0, [], [], [], [])).1) = p1))) then
 some (.inl false)
 else
 f_spec_WorldOk.l0 n p0 (IntKind.wrap .i64 (p1 + (1 : Int))) p2 p3 p4
 else none
 else none
 else
 some (.inr (p0, p2, p3, p4))
noncomputable def f_spec_WorldOk (x0 : Int) (x1 : tyN) (x2 : tyP) : Option (Bool) :=
 (f_spec_l1In x0 1 4).bind fun y0 =>
 bif (!y0) then
 some false
 else
 bif (!(decide ((x1.length : Int) = x0))) then
 some false
 else
 bif (decide ((40 : Int) < (x2.length : Int))) then
 some false
 else
 (f_spec_WorldOk.l0 N false 0 x0 x1 x2).bind fun r1 =>
 cs r1 (fun a2 =>
 some a2) (fun b3 =>
 (f_spec_WorldOk.l1 N b3.1 0 b3.2.1 b3.2.2.1 b3.2.2.2).bind fun r4 =>
 cs r4 (fun a5 =>
 some a5) (fun b6 =>
 some true))
noncomputable def C59 : Con := ⟨[(.B, true, [iI, (.sl R8), (.sl R9)])], [(false, [.bool])], [iI, (.sl R8), (.sl R9)], [.bool], fun (p : Int × tyN × tyP) => f_spec_WorldOk p.1 p.2.1 p.2.2⟩
noncomputable abbrev f_spec_WorldOk.l0.u (n : Nat) := fun (p : Bool × Int × Int × tyN × tyP) => f_spec_WorldOk.l0 n p.1 p.2.1 p.2.2.1 p.2.2.2.1 p.2.2.2.2
noncomputable def f_spec_WorldOk.l0.c : LoopCon := ⟨1000, 6, [1, 2, 3], ⟨[(1, .ptr 1000 0), (2, .bool false), (3, i0)], [(1000, .box [i0, bN R8, bN R9])], 1001⟩, [.bool, iI, iI, (.sl R8), (.sl R9)], [⟨.ret, [2], ⟨[(2, .bool false)], [], 1000⟩, [.bool]⟩, ⟨.exit 0, [1, 2], ⟨[(1, .ptr 1000 0), (2, .bool false)], [(1000, .box [i0, bN R8, bN R9])], 1001⟩, [.bool, iI, (.sl R8), (.sl R9)]⟩], f_spec_WorldOk.l0.u N⟩
noncomputable abbrev f_spec_WorldOk.l1.u (n : Nat) := fun (p : Bool × Int × Int × tyN × tyP) => f_spec_WorldOk.l1 n p.1 p.2.1 p.2.2.1 p.2.2.2.1 p.2.2.2.2
noncomputable def f_spec_WorldOk.l1.c : LoopCon := ⟨1000, 6, [1, 2, 4], ⟨[(1, .ptr 1000 0), (2, .bool false), (4, i0)], [(1000, .box [i0, bN R8, bN R9])], 1001⟩, [.bool, iI, iI, (.sl R8), (.sl R9)], [⟨.ret, [2], ⟨[(2, .bool false)], [], 1000⟩, [.bool]⟩, ⟨.exit 2, [2], ⟨[(2, .bool false)], [], 1000⟩, [.bool]⟩], f_spec_WorldOk.l1.u N⟩
noncomputable abbrev K59 : Cons := [(48, C48), (60, C60), (138, C138)]
noncomputable abbrev L59 : List (Nat × Loops) := [(59, [(4, f_spec_WorldOk.l0.c), (9, f_spec_WorldOk.l1.c)])]
abbrev Q59 : List (Nat × List (Int × Nat) × Nat) := []
noncomputable abbrev X59 : Nat → Ctx := ctxOf tb K59 L59 Q59
theorem f_spec_WorldOk.l0.ok : ∀ n p, f_spec_WorldOk.l0.u n p = iterD (roundOf fs X59 6 59 4 false f_spec_WorldOk.l0.c) n p :=
 iter_of (l := f_spec_WorldOk.l0.u) (fun _ => rfl) (fun n p => by kernel_rfl)
theorem f_spec_WorldOk.l1.ok : ∀ n p, f_spec_WorldOk.l1.u n p = iterD (roundOf fs X59 6 59 9 false f_spec_WorldOk.l1.c) n p :=
 iter_of (l := f_spec_WorldOk.l1.u) (fun _ => rfl) (fun n p => by kernel_rfl)
theorem E59 : ∀ x, funRun fs X59 6 59 C59 x = C59.fn x := fun x => by kernel_rfl
theorem B59 : ConB Tryz.prog 59 C59 := ConB.make FS MIX TY (cons := K59) (L := L59) (ptrs := Q59) ⟨S48, S60, S138, trivial⟩ trivial ⟨⟨⟨N, fun p => f_spec_WorldOk.l0.ok N p⟩, ⟨N, fun p => f_spec_WorldOk.l1.ok N p⟩, trivial⟩, trivial⟩ rfl rfl E59
theorem S59 : ConS Tryz.prog 59 C59 := B59.call rfl
noncomputable def f_spec_l3Copy (x0 : Int) (x1 : List Int) (x2 : Bool) : Option (Int × List Int × Bool) :=
 bif (Nat.blt (([] : List Int).length + x1.length) 17592186044416) then
 (some ((([] : List Int) ++ x1) : List Int)).bind fun z0 =>
 some (x0, z0, x2)
 else none
noncomputable def C151 : Con := ⟨[(.B, true, [iI, (.sl R1), .bool])], [(true, [iI, (.sl R1), .bool])], [iI, (.sl R1), .bool], [iI, (.sl R1), .bool], fun (p : Int × List Int × Bool) => f_spec_l3Copy p.1 p.2.1 p.2.2⟩
noncomputable abbrev K151 : Cons := []
noncomputable abbrev L151 : List (Nat × Loops) := []
abbrev Q151 : List (Nat × List (Int × Nat) × Nat) := []
noncomputable abbrev X151 : Nat → Ctx := ctxOf tb K151 L151 Q151
theorem E151 : ∀ x, funRun fs X151 6 151 C151 x = C151.fn x := fun x => by kernel_rfl
theorem B151 : ConB Tryz.prog 151 C151 := ConB.make FS MIX TY (cons := K151) (L := L151) (ptrs := Q151) trivial trivial trivial rfl rfl E151
theorem S151 : ConS Tryz.prog 151 C151 := B151.call rfl
noncomputable def f_spec_l4Copy (x0 : List Int) (x1 : Int) (x2 : List Bool) (x3 : Bool) (x4 : Int) (x5 : Bool) (x6 : Int) (x7 : tyW) : Option (List Int × Int × List Bool × Bool × Int × Bool × Int × tyW) :=
 bif (Nat.blt (([] : List Int).length + x0.length) 17592186044416) then
 (some ((([] : List Int) ++ x0) : List Int)).bind fun z0 =>
 bif (Nat.blt (([] : List Bool).length + x2.length) 140737488355328) then
 (some ((([] : List Bool) ++ x2) : List Bool)).bind fun z1 =>
 bif (Nat.blt (([] : tyW).length + x7.length) 8796093022208) then
 (some ((([] : tyW) ++ x7) : tyW)).bind fun z2 =>
 some (z0, x1, z1, x3, x4, x5, x6, z2)
 else none
 else none
 else none
noncomputable def C152 : Con := ⟨[(.B, true, [(.sl R1), iI, (.sl R2), .bool, iI, .bool, iI, (.sl R3)])], [(true, [(.sl R1), iI, (.sl R2), .bool, iI, .bool, iI, (.sl R3)])], [(.sl R1), iI, (.sl R2), .bool, iI, .bool, iI, (.sl R3)], [(.sl R1), iI, (.sl R2), .bool, iI, .bool, iI, (.sl R3)], fun (p : List Int × Int × List Bool × Bool × Int × Bool × Int × tyW) => f_spec_l4Copy p.1 p.2.1 p.2.2.1 p.2.2.2.1 p.2.2.2.2.1 p.2.2.2.2.2.1 p.2.2.2.2.2.2.1 p.2.2.2.2.2.2.2⟩
noncomputable abbrev K152 : Cons := []
noncomputable abbrev L152 : List (Nat × Loops) := []
abbrev Q152 : List (Nat × List (Int × Nat) × Nat) := []
noncomputable abbrev X152 : Nat → Ctx := ctxOf tb K152 L152 Q152
theorem E152 : ∀ x, funRun fs X152 6 152 C152 x = C152.fn x := fun x => by kernel_rfl
theorem B152 : ConB Tryz.prog 152 C152 := ConB.make FS MIX TY (cons := K152) (L := L152) (ptrs := Q152) trivial trivial trivial rfl rfl E152
theorem S152 : ConS Tryz.prog 152 C152 := B152.call rfl
noncomputable def f_spec_l1Msg (x0 : Int) (x1 : Int) (x2 : Bool) (x3 : List Int) : Option (Int × Int × Bool × List Int) :=
 bif (Nat.blt (([] : List Int).length + x3.length) 17592186044416) then
 (some ((([] : List Int) ++ x3) : List Int)).bind fun z0 =>
 some (x0, x1, x2, z0)
 else none
noncomputable def C154 : Con := ⟨[(.B, true, [iI, iI, .bool, (.sl R1)])], [(true, [iI, iI, .bool, (.sl R1)])], [iI, iI, .bool, (.sl R1)], [iI, iI, .bool, (.sl R1)], fun (p : Int × Int × Bool × List Int) => f_spec_l1Msg p.1 p.2.1 p.2.2.1 p.2.2.2⟩
noncomputable abbrev K154 : Cons := []
noncomputable abbrev L154 : List (Nat × Loops) := []
abbrev Q154 : List (Nat × List (Int × Nat) × Nat) := []
noncomputable abbrev X154 : Nat → Ctx := ctxOf tb K154 L154 Q154
theorem E154 : ∀ x, funRun fs X154 6 154 C154 x = C154.fn x := fun x => by kernel_rfl
theorem B154 : ConB Tryz.prog 154 C154 := ConB.make FS MIX TY (cons := K154) (L := L154) (ptrs := Q154) trivial trivial trivial rfl rfl E154
theorem S154 : ConS Tryz.prog 154 C154 := B154.call rfl
noncomputable def f_spec_l2Sender.l0 : Nat → Int → Int → tyM → Int → Int → tyM → tyM → Option (Int × Int × tyM × tyM)
 | 0, _, _, _, _, _, _, _ => none
 | n + 1, p0, p1, p2, p3, p4, p5, p6 =>
 bif (decide (p0 < (p2.length : Int))) then
 bif ((decide ((0 : Int) ≤ p0)) && (decide (p0 < (p2.length : Int)))) then
 (f_spec_l1Msg ((p2.getD p0.toNat (0, 0, false, [])).1) ((p2.getD p0.toNat (0, 0, false, [])).2.1) ((p2.getD p0.toNat (0, 0, false, [])).2.2.1) ((p2.getD p0.toNat (0, 0, false, [])).2.2.2)).bind fun y7 =>
 bif (Nat.blt (p6.length + ([(y7.1, y7.2.1, y7.2.2.1, y7.2.2.2)] : tyM).length) 2932031007402) then
 (some ((p6 ++ ([(y7.1, y7.2.1, y7.2.2.1, y7.2.2.2)] : tyM)) : tyM)).bind fun z8 =>
 f_spec_l2Sender.l0 n (IntKind.wrap .i64 (p0 + (1 : Int))) p1 p2 p3 p4 p5 z8
 else none
 else none
 else
 some (p3, p4, p5, p6)
noncomputable def f_spec_l2Sender (x0 : Int) (x1 : tyM) : Option (Int × tyM) :=
 (f_spec_l2Sender.l0 N 0 x0 x1 0 x0 ([] : tyM) ([] : tyM)).bind fun r0 =>
 some (r0.2.1, r0.2.2.2)
noncomputable def C153 : Con := ⟨[(.B, true, [iI, (.sl R6)])], [(true, [iI, (.sl R6)])], [iI, (.sl R6)], [iI, (.sl R6)], fun (p : Int × tyM) => f_spec_l2Sender p.1 p.2⟩
noncomputable abbrev f_spec_l2Sender.l0.u (n : Nat) := fun (p : Int × Int × tyM × Int × Int × tyM × tyM) => f_spec_l2Sender.l0 n p.1 p.2.1 p.2.2.1 p.2.2.2.1 p.2.2.2.2.1 p.2.2.2.2.2.1 p.2.2.2.2.2.2
noncomputable def f_spec_l2Sender.l0.c : LoopCon := ⟨1000, 6, [1, 2, 3, 4], ⟨[(1, .ptr 1000 0), (2, .ptr 1001 0), (3, .ptr 1002 0), (4, i0)], [(1000, .box [i0, bN R6]), (1001, .box [i0, .ref 1003 [] none]), (1002, .box [i0, .ref 1004 [] none]), (1003, .row R6 []), (1004, .row R6 [])], 1005⟩, [iI, iI, (.sl R6), iI, iI, (.sl R6), (.sl R6)], [⟨.exit 0, [2, 3], ⟨[(2, .ptr 1000 0), (3, .ptr 1001 0)], [(1000, .box [i0, .ref 1002 [] none]), (1001, .box [i0, .ref 1003 [] none]), (1002, .row R6 []), (1003, .row R6 [])], 1004⟩, [iI, iI, (.sl R6), (.sl R6)]⟩], f_spec_l2Sender.l0.u N⟩
noncomputable abbrev K153 : Cons := [(154, C154)]
noncomputable abbrev L153 : List (Nat × Loops) := [(153, [(3, f_spec_l2Sender.l0.c)])]
abbrev Q153 : List (Nat × List (Int × Nat) × Nat) := []
noncomputable abbrev X153 : Nat → Ctx := ctxOf tb K153 L153 Q153
theorem f_spec_l2Sender.l0.ok : ∀ n p, f_spec_l2Sender.l0.u n p = iterD (roundOf fs X153 6 153 3 false f_spec_l2Sender.l0.c) n p :=
 iter_of (l := f_spec_l2Sender.l0.u) (fun _ => rfl) (fun n p => by kernel_rfl)
theorem E153 : ∀ x, funRun fs X153 6 153 C153 x = C153.fn x := fun x => by kernel_rfl
theorem B153 : ConB Tryz.prog 153 C153 := ConB.make FS MIX TY (cons := K153) (L := L153) (ptrs := Q153) ⟨S154, trivial⟩ trivial ⟨⟨⟨N, fun p => f_spec_l2Sender.l0.ok N p⟩, trivial⟩, trivial⟩ rfl rfl E153
theorem S153 : ConS Tryz.prog 153 C153 := B153.call rfl
noncomputable def f_spec_l5Copy.l2 : Nat → Int → Int → tyF → tyH → tyS → (List Int) → Int → Int → tyF → tyH → tyS → (List Int) → tyF → tyH → tyS → (List Int) → Option (Int × Int × tyF × tyH × tyS × List Int × tyF × tyH × tyS × List Int)
 | 0, _, _, _, _, _, _, _, _, _, _, _, _, _, _, _, _ => none
 | n + 1, p0, p1, p2, p3, p4, p5, p6, p7, p8, p9, p10, p11, p12, p13, p14, p15 =>
 bif (decide (p0 < (p4.length : Int))) then
 bif ((decide ((0 : Int) ≤ p0)) && (decide (p0 < (p4.length : Int)))) then
 (f_spec_l2Sender ((p4.getD p0.toNat (0, [])).1) ((p4.getD p0.toNat (0, [])).2)).bind fun y16 =>
 bif (Nat.blt (p14.length + ([(y16.1, y16.2)] : tyS).length) 4398046511104) then
 (some ((p14 ++ ([(y16.1, y16.2)] : tyS)) : tyS)).bind fun z17 =>
 f_spec_l5Copy.l2 n (IntKind.wrap .i64 (p0 + (1 : Int))) p1 p2 p3 p4 p5 p6 p7 p8 p9 p10 p11 p12 p13 z17 p15
 else none
 else none
 else
 some (p6, p7, p8, p9, p10, p11, p12, p13, p14, p15)
noncomputable def f_spec_l5Copy.l1 : Nat → Int → Int → tyF → tyH → tyS → (List Int) → Int → Int → tyF → tyH → tyS → (List Int) → tyF → tyH → tyS → (List Int) → Option (Int × tyF × tyH × tyS × List Int × Int × Int × tyF × tyH × tyS × List Int × tyF × tyH × tyS × List Int)
 | 0, _, _, _, _, _, _, _, _, _, _, _, _, _, _, _, _ => none
 | n + 1, p0, p1, p2, p3, p4, p5, p6, p7, p8, p9, p10, p11, p12, p13, p14, p15 =>
 bif (decide (p0 < (p3.length : Int))) then
 bif ((decide ((0 : Int) ≤ p0)) && (decide (p0 < (p3.length : Int)))) then
 (f_spec_l4Copy ((p3.getD p0.toNat ([], 0, [], false, 0, false, 0, [])).1) ((p3.getD p0.toNat ([], 0, [], false, 0, false, 0, [])).2.1) ((p3.getD p0.toNat ([], 0, [], false, 0, false, 0, [])).2.2.1) ((p3.getD p0.toNat ([], 0, [], false, 0, false, 0, [])).2.2.2.1) ((p3.getD p0.toNat ([], 0, [], false, 0, false, 0, [])).2.2.2.2.1) ((p3.getD p0.toNat ([], 0, [], false, 0, false, 0, [])).2.2.2.2.2.1) ((p3.getD p0.toNat ([], 0, [], false, 0, false, 0, [])).2.2.2.2.2.2.1) ((p3.getD p0.toNat ([], 0, [], false, 0, false, 0, [])).2.2.2.2.2.2.2)).bind fun y16 =>
 bif (Nat.blt (p13.length + ([(y16.1, y16.2.1, y16.2.2.1, y16.2.2.2.1, y16.2.2.2.2.1, y16.2.2.2.2.2.1, y16.2.2.2.2.2.2.1, y16.2.2.2.2.2.2.2)] : tyH).length) 1256584717458) then
 (some ((p13 ++ ([(y16.1, y16.2.1, y16.2.2.1, y16.2.2.2.1, y16.2.2.2.2.1, y16.2.2.2.2.2.1, y16.2.2.2.2.2.2.1, y16.2.2.2.2.2.2.2)] : tyH)) : tyH)).bind fun z17 =>
 f_spec_l5Copy.l1 n (IntKind.wrap .i64 (p0 + (1 : Int))) p1 p2 p3 p4 p5 p6 p7 p8 p9 p10 p11 p12 z17 p14 p15
 else none
 else none
 else
 some (p1, p2, p3, p4, p5, p6, p7, p8, p9, p10, p11, p12, p13, p14, p15)
noncomputable def f_spec_l5Copy.l0 : Nat → Int → Int → tyF → tyH → tyS → (List Int) → Int → Int → tyF → tyH → tyS → (List Int) → tyF → tyH → tyS → (List Int) → Option (Int × tyF × tyH × tyS × List Int × Int × Int × tyF × tyH × tyS × List Int × tyF × tyH × tyS × List Int)
 | 0, _, _, _, _, _, _, _, _, _, _, _, _, _, _, _, _ => none
 | n + 1, p0, p1, p2, p3, p4, p5, p6, p7, p8, p9, p10, p11, p12, p13, p14, p15 =>
 bif (decide (p0 < (p2.length : Int))) then
 bif ((decide ((0 : Int) ≤ p0)) && (decide (p0 < (p2.length : Int)))) then
 (f_spec_l3Copy ((p2.getD p0.toNat (0, [], false)).1) ((p2.getD p0.toNat (0, [], false)).2.1) ((p2.getD p0.toNat (0, [], false)).2.2)).bind fun y16 =>
 bif (Nat.blt (p12.length + ([(y16.1, y16.2.1, y16.2.2)] : tyF).length) 3518437208883) then
 (some ((p12 ++ ([(y16.1, y16.2.1, y16.2.2)] : tyF)) : tyF)).bind fun z17 =>
 f_spec_l5Copy.l0 n (IntKind.wrap .i64 (p0 + (1 : Int))) p1 p2 p3 p4 p5 p6 p7 p8 p9 p10 p11 z17 p13 p14 p15
 else none
 else none
 else
 some (p1, p2, p3, p4, p5, p6, p7, p8, p9, p10, p11, p12, p13, p14, p15)
noncomputable def f_spec_l5Copy (x0 : Int) (x1 : tyF) (x2 : tyH) (x3 : tyS) (x4 : List Int) : Option (Int × tyF × tyH × tyS × List Int) :=
 bif (Nat.blt (([] : List Int).length + x4.length) 17592186044416) then
 (some ((([] : List Int) ++ x4) : List Int)).bind fun z0 =>
 (f_spec_l5Copy.l0 N 0 x0 x1 x2 x3 x4 0 x0 ([] : tyF) ([] : tyH) ([] : tyS) ([] : List Int) ([] : tyF) ([] : tyH) ([] : tyS) z0).bind fun r1 =>
 (f_spec_l5Copy.l1 N 0 r1.1 r1.2.1 r1.2.2.1 r1.2.2.2.1 r1.2.2.2.2.1 r1.2.2.2.2.2.1 r1.2.2.2.2.2.2.1 r1.2.2.2.2.2.2.2.1 r1.2.2.2.2.2.2.2.2.1 r1.2.2.2.2.2.2.2.2.2.1 r1.2.2.2.2.2.2.2.2.2.2.1 r1.2.2.2.2.2.2.2.2.2.2.2.1 r1.2.2.2.2.2.2.2.2.2.2.2.2.1 r1.2.2.2.2.2.2.2.2.2.2.2.2.2.1 r1.2.2.2.2.2.2.2.2.2.2.2.2.2.2).bind fun r2 =>
 (f_spec_l5Copy.l2 N 0 r2.1 r2.2.1 r2.2.2.1 r2.2.2.2.1 r2.2.2.2.2.1 r2.2.2.2.2.2.1 r2.2.2.2.2.2.2.1 r2.2.2.2.2.2.2.2.1 r2.2.2.2.2.2.2.2.2.1 r2.2.2.2.2.2.2.2.2.2.1 r2.2.2.2.2.2.2.2.2.2.2.1 r2.2.2.2.2.2.2.2.2.2.2.2.1 r2.2.2.2.2.2.2.2.2.2.2.2.2.1 r2.2.2.2.2.2.2.2.2.2.2.2.2.2.1 r2.2.2.2.2.2.2.2.2.2.2.2.2.2.2).bind fun r3 =>
 some (r3.2.1, r3.2.2.2.2.2.2.1, r3.2.2.2.2.2.2.2.1, r3.2.2.2.2.2.2.2.2.1, r3.2.2.2.2.2.2.2.2.2)
 else none
noncomputable def C77 : Con := ⟨[(.B, true, [iI, (.sl R4), (.sl R5), (.sl R7), (.sl R1)])], [(true, [iI, (.sl R4), (.sl R5), (.sl R7), (.sl R1)])], [iI, (.sl R4), (.sl R5), (.sl R7), (.sl R1)], [iI, (.sl R4), (.sl R5), (.sl R7), (.sl R1)], fun (p : Int × tyF × tyH × tyS × List Int) => f_spec_l5Copy p.1 p.2.1 p.2.2.1 p.2.2.2.1 p.2.2.2.2⟩
noncomputable abbrev f_spec_l5Copy.l0.u (n : Nat) := fun (p : Int × Int × tyF × tyH × tyS × List Int × Int × Int × tyF × tyH × tyS × List Int × tyF × tyH × tyS × List Int) => f_spec_l5Copy.l0 n p.1 p.2.1 p.2.2.1 p.2.2.2.1 p.2.2.2.2.1 p.2.2.2.2.2.1 p.2.2.2.2.2.2.1 p.2.2.2.2.2.2.2.1 p.2.2.2.2.2.2.2.2.1 p.2.2.2.2.2.2.2.2.2.1 p.2.2.2.2.2.2.2.2.2.2.1 p.2.2.2.2.2.2.2.2.2.2.2.1 p.2.2.2.2.2.2.2.2.2.2.2.2.1 p.2.2.2.2.2.2.2.2.2.2.2.2.2.1 p.2.2.2.2.2.2.2.2.2.2.2.2.2.2.1 p.2.2.2.2.2.2.2.2.2.2.2.2.2.2.2
noncomputable def f_spec_l5Copy.l0.c : LoopCon := ⟨1000, 6, [1, 2, 3, 4], ⟨[(1, .ptr 1000 0), (2, .ptr 1001 0), (3, .ptr 1002 0), (4, i0)], [(1000, .box [i0, bN R4, bN R5, bN R7, bN R1]), (1001, .box [i0, .ref 1003 [] none, .ref 1004 [] none, .ref 1005 [] none, .ref 1006 [] none]), (1002, .box [i0, .ref 1007 [] none, .ref 1008 [] none, .ref 1009 [] none, .ref 1010 [] none]), (1003, .row R4 []), (1004, .row R5 []), (1005, .row R7 []), (1006, .row R1 []), (1007, .row R4 []), (1008, .row R5 []), (1009, .row R7 []), (1010, .row R1 [])], 1011⟩, [iI, iI, (.sl R4), (.sl R5), (.sl R7), (.sl R1), iI, iI, (.sl R4), (.sl R5), (.sl R7), (.sl R1), (.sl R4), (.sl R5), (.sl R7), (.sl R1)], [⟨.exit 0, [1, 2, 3], ⟨[(1, .ptr 1000 0), (2, .ptr 1001 0), (3, .ptr 1002 0)], [(1000, .box [i0, bN R4, bN R5, bN R7, bN R1]), (1001, .box [i0, .ref 1003 [] none, .ref 1004 [] none, .ref 1005 [] none, .ref 1006 [] none]), (1002, .box [i0, .ref 1007 [] none, .ref 1008 [] none, .ref 1009 [] none, .ref 1010 [] none]), (1003, .row R4 []), (1004, .row R5 []), (1005, .row R7 []), (1006, .row R1 []), (1007, .row R4 []), (1008, .row R5 []), (1009, .row R7 []), (1010, .row R1 [])], 1011⟩, [iI, (.sl R4), (.sl R5), (.sl R7), (.sl R1), iI, iI, (.sl R4), (.sl R5), (.sl R7), (.sl R1), (.sl R4), (.sl R5), (.sl R7), (.sl R1)]⟩], f_spec_l5Copy.l0.u N⟩
noncomputable abbrev f_spec_l5Copy.l1.u (n : Nat) := fun (p : Int × Int × tyF × tyH × tyS × List Int × Int × Int × tyF × tyH × tyS × List Int × tyF × tyH × tyS × List Int) => f_spec_l5Copy.l1 n p.1 p.2.1 p.2.2.1 p.2.2.2.1 p.2.2.2.2.1 p.2.2.2.2.2.1 p.2.2.2.2.2.2.1 p.2.2.2.2.2.2.2.1 p.2.2.2.2.2.2.2.2.1 p.2.2.2.2.2.2.2.2.2.1 p.2.2.2.2.2.2.2.2.2.2.1 p.2.2.2.2.2.2.2.2.2.2.2.1 p.2.2.2.2.2.2.2.2.2.2.2.2.1 p.2.2.2.2.2.2.2.2.2.2.2.2.2.1 p.2.2.2.2.2.2.2.2.2.2.2.2.2.2.1 p.2.2.2.2.2.2.2.2.2.2.2.2.2.2.2
noncomputable def f_spec_l5Copy.l1.c : LoopCon := ⟨1000, 6, [1, 2, 3, 5], ⟨[(1, .ptr 1000 0), (2, .ptr 1001 0), (3, .ptr 1002 0), (5, i0)], [(1000, .box [i0, bN R4, bN R5, bN R7, bN R1]), (1001, .box [i0, .ref 1003 [] none, .ref 1004 [] none, .ref 1005 [] none, .ref 1006 [] none]), (1002, .box [i0, .ref 1007 [] none, .ref 1008 [] none, .ref 1009 [] none, .ref 1010 [] none]), (1003, .row R4 []), (1004, .row R5 []), (1005, .row R7 []), (1006, .row R1 []), (1007, .row R4 []), (1008, .row R5 []), (1009, .row R7 []), (1010, .row R1 [])], 1011⟩, [iI, iI, (.sl R4), (.sl R5), (.sl R7), (.sl R1), iI, iI, (.sl R4), (.sl R5), (.sl R7), (.sl R1), (.sl R4), (.sl R5), (.sl R7), (.sl R1)], [⟨.exit 2, [1, 2, 3], ⟨[(1, .ptr 1000 0), (2, .ptr 1001 0), (3, .ptr 1002 0)], [(1000, .box [i0, bN R4, bN R5, bN R7, bN R1]), (1001, .box [i0, .ref 1003 [] none, .ref 1004 [] none, .ref 1005 [] none, .ref 1006 [] none]), (1002, .box [i0, .ref 1007 [] none, .ref 1008 [] none, .ref 1009 [] none, .ref 1010 [] none]), (1003, .row R4 []), (1004, .row R5 []), (1005, .row R7 []), (1006, .row R1 []), (1007, .row R4 []), (1008, .row R5 []), (1009, .row R7 []), (1010, .row R1 [])], 1011⟩, [iI, (.sl R4), (.sl R5), (.sl R7), (.sl R1), iI, iI, (.sl R4), (.sl R5), (.sl R7), (.sl R1), (.sl R4), (.sl R5), (.sl R7), (.sl R1)]⟩], f_spec_l5Copy.l1.u N⟩
noncomputable abbrev f_spec_l5Copy.l2.u (n : Nat) := fun (p : Int × Int × tyF × tyH × tyS × List Int × Int × Int × tyF × tyH × tyS × List Int × tyF × tyH × tyS × List Int) => f_spec_l5Copy.l2 n p.1 p.2.1 p.2.2.1 p.2.2.2.1 p.2.2.2.2.1 p.2.2.2.2.2.1 p.2.2.2.2.2.2.1 p.2.2.2.2.2.2.2.1 p.2.2.2.2.2.2.2.2.1 p.2.2.2.2.2.2.2.2.2.1 p.2.2.2.2.2.2.2.2.2.2.1 p.2.2.2.2.2.2.2.2.2.2.2.1 p.2.2.2.2.2.2.2.2.2.2.2.2.1 p.2.2.2.2.2.2.2.2.2.2.2.2.2.1 p.2.2.2.2.2.2.2.2.2.2.2.2.2.2.1 p.2.2.2.2.2.2.2.2.2.2.2.2.2.2.2
noncomputable def f_spec_l5Copy.l2.c : LoopCon := ⟨1000, 6, [1, 2, 3, 6], ⟨[(1, .ptr 1000 0), (2, .ptr 1001 0), (3, .ptr 1002 0), (6, i0)], [(1000, .box [i0, bN R4, bN R5, bN R7, bN R1]), (1001, .box [i0, .ref 1003 [] none, .ref 1004 [] none, .ref 1005 [] none, .ref 1006 [] none]), (1002, .box [i0, .ref 1007 [] none, .ref 1008 [] none, .ref 1009 [] none, .ref 1010 [] none]), (1003, .row R4 []), (1004, .row R5 []), (1005, .row R7 []), (1006, .row R1 []), (1007, .row R4 []), (1008, .row R5 []), (1009, .row R7 []), (1010, .row R1 [])], 1011⟩, [iI, iI, (.sl R4), (.sl R5), (.sl R7), (.sl R1), iI, iI, (.sl R4), (.sl R5), (.sl R7), (.sl R1), (.sl R4), (.sl R5), (.sl R7), (.sl R1)], [⟨.exit 4, [2, 3], ⟨[(2, .ptr 1000 0), (3, .ptr 1001 0)], [(1000, .box [i0, .ref 1002 [] none, .ref 1003 [] none, .ref 1004 [] none, .ref 1005 [] none]), (1001, .box [i0, .ref 1006 [] none, .ref 1007 [] none, .ref 1008 [] none, .ref 1009 [] none]), (1002, .row R4 []), (1003, .row R5 []), (1004, .row R7 []), (1005, .row R1 []), (1006, .row R4 []), (1007, .row R5 []), (1008, .row R7 []), (1009, .row R1 [])], 1010⟩, [iI, iI, (.sl R4), (.sl R5), (.sl R7), (.sl R1), (.sl R4), (.sl R5), (.sl R7), (.sl R1)]⟩], f_spec_l5Copy.l2.u N⟩
noncomputable abbrev K77 : Cons := [(151, C151), (152, C152), (153, C153)]
noncomputable abbrev L77 : List (Nat × Loops) := [(77, [(3, f_spec_l5Copy.l0.c), (7, f_spec_l5Copy.l1.c), (11, f_spec_l5Copy.l2.c)])]
abbrev Q77 : List (Nat × List (Int × Nat) × Nat) := []
noncomputable abbrev X77 : Nat → Ctx := ctxOf tb K77 L77 Q77
theorem f_spec_l5Copy.l0.ok : ∀ n p, f_spec_l5Copy.l0.u n p = iterD (roundOf fs X77 6 77 3 false f_spec_l5Copy.l0.c) n p :=
 iter_of (l := f_spec_l5Copy.l0.u) (fun _ => rfl) (fun n p => by kernel_rfl)
theorem f_spec_l5Copy.l1.ok : ∀ n p, f_spec_l5Copy.l1.u n p = iterD (roundOf fs X77 6 77 7 false f_spec_l5Copy.l1.c) n p :=
 iter_of (l := f_spec_l5Copy.l1.u) (fun _ => rfl) (fun n p => by kernel_rfl)
theorem f_spec_l5Copy.l2.ok : ∀ n p, f_spec_l5Copy.l2.u n p = iterD (roundOf fs X77 6 77 11 false f_spec_l5Copy.l2.c) n p :=
 iter_of (l := f_spec_l5Copy.l2.u) (fun _ => rfl) (fun n p => by kernel_rfl)
theorem E77 : ∀ x, funRun fs X77 6 77 C77 x = C77.fn x := fun x => by kernel_rfl
theorem B77 : ConB Tryz.prog 77 C77 := ConB.make FS MIX TY (cons := K77) (L := L77) (ptrs := Q77) ⟨S151, S152, S153, trivial⟩ trivial ⟨⟨⟨N, fun p => f_spec_l5Copy.l0.ok N p⟩, ⟨N, fun p => f_spec_l5Copy.l1.ok N p⟩, ⟨N, fun p => f_spec_l5Copy.l2.ok N p⟩, trivial⟩, trivial⟩ rfl rfl E77
theorem S77 : ConS Tryz.prog 77 C77 := B77.call rfl
noncomputable def f_spec_l6Packet (x0 : Int) (x1 : Int) (x2 : Bool) (x3 : Int) (x4 : Int) (x5 : Int) (x6 : Bool) (x7 : List Int) : Option (Int × Int × Bool × Int × Int × Int × Bool × List Int) :=
 (f_spec_l1Msg x4 x5 x6 x7).bind fun y0 =>
 some (x0, x1, x2, x3, y0.1, y0.2.1, y0.2.2.1, y0.2.2.2)
noncomputable def C228 : Con := ⟨[(.B, true, [iI, iI, .bool, iI, iI, iI, .bool, (.sl R1)])], [(true, [iI, iI, .bool, iI, iI, iI, .bool, (.sl R1)])], [iI, iI, .bool, iI, iI, iI, .bool, (.sl R1)], [iI, iI, .bool, iI, iI, iI, .bool, (.sl R1)], fun (p : Int × Int × Bool × Int × Int × Int × Bool × List Int) => f_spec_l6Packet p.1 p.2.1 p.2.2.1 p.2.2.2.1 p.2.2.2.2.1 p.2.2.2.2.2.1 p.2.2.2.2.2.2.1 p.2.2.2.2.2.2.2⟩
noncomputable abbrev K228 : Cons := [(154, C154)]
noncomputable abbrev L228 : List (Nat × Loops) := []
abbrev Q228 : List (Nat × List (Int × Nat) × Nat) := []
noncomputable abbrev X228 : Nat → Ctx := ctxOf tb K228 L228 Q228
theorem E228 : ∀ x, funRun fs X228 6 228 C228 x = C228.fn x := fun x => by kernel_rfl
theorem B228 : ConB Tryz.prog 228 C228 := ConB.make FS MIX TY (cons := K228) (L := L228) (ptrs := Q228) ⟨S154, trivial⟩ trivial trivial rfl rfl E228
theorem S228 : ConS Tryz.prog 228 C228 := B228.call rfl
noncomputable def f_spec_l6Copy.l1 : Nat → Int → Int → tyN → tyP → Int → Int → tyN → tyP → tyN → tyP → Option (Int × Int × tyN × tyP × tyN × tyP)
 | 0, _, _, _, _, _, _, _, _, _, _ => none
 | n + 1, p0, p1, p2, p3, p4, p5, p6, p7, p8, p9 =>
 bif (decide (p0 < (p3.length : Int))) then
 bif ((decide ((0 : Int) ≤ p0)) && (decide (p0 < (p3.length : Int)))) then
 (f_spec_l6Packet ((p3.getD p0.toNat (0, 0, false, 0, 0, 0, false, [])).1) ((p3.getD p0.toNat (0, 0, false, 0, 0, 0, false, [])).2.1) ((p3.getD p0.toNat (0, 0, false, 0, 0, 0, false, [])).2.2.1) ((p3.getD p0.toNat (0, 0, false, 0, 0, 0, false, [])).2.2.2.1) ((p3.getD p0.toNat (0, 0, false, 0, 0, 0, false, [])).2.2.2.2.1) ((p3.getD p0.toNat (0, 0, false, 0, 0, 0, false, [])).2.2.2.2.2.1) ((p3.getD p0.toNat (0, 0, false, 0, 0, 0, false, [])).2.2.2.2.2.2.1) ((p3.getD p0.toNat (0, 0, false, 0, 0, 0, false, [])).2.2.2.2.2.2.2)).bind fun y10 =>
 bif (Nat.blt (p9.length + ([(y10.1, y10.2.1, y10.2.2.1, y10.2.2.2.1, y10.2.2.2.2.1, y10.2.2.2.2.2.1, y10.2.2.2.2.2.2.1, y10.2.2.2.2.2.2.2)] : tyP).length) 1759218604441) then
 (some ((p9 ++ ([(y10.1, y10.2.1, y10.2.2.1, y10.2.2.2.1, y10.2.2.2.2.1, y10.2.2.2.2.2.1, y10.2.2.2.2.2.2.1, y10.2.2.2.2.2.2.2)] : tyP)) : tyP)).bind fun z11 =>
 f_spec_l6Copy.l1 n (IntKind.wrap .i64 (p0 + (1 : Int))) p1 p2 p3 p4 p5 p6 p7 p8 z11
 else none
 else none
 else
 some (p4, p5, p6, p7, p8, p9)
noncomputable def f_spec_l6Copy.l0 : Nat → Int → Int → tyN → tyP → Int → Int → tyN → tyP → tyN → tyP → Option (Int × tyN × tyP × Int × Int × tyN × tyP × tyN × tyP)
 | 0, _, _, _, _, _, _, _, _, _, _ => none
 | n + 1, p0, p1, p2, p3, p4, p5, p6, p7, p8, p9 =>
 bif (decide (p0 < (p2.length : Int))) then
 bif ((decide ((0 : Int) ≤ p0)) && (decide (p0 < (p2.length : Int)))) then
 (f_spec_l5Copy ((p2.getD p0.toNat (0, [], [], [], [])).1) ((p2.getD p0.toNat (0, [], [], [], [])).2.1) ((p2.getD p0.toNat (0, [], [], [], [])).2.2.1) ((p2.getD p0.toNat (0, [], [], [], [])).2.2.2.1) ((p2.getD p0.toNat (0, [], [], [], [])).2.2.2.2)).bind fun y10 =>
 bif (Nat.blt (p8.length + ([(y10.1, y10.2.1, y10.2.2.1, y10.2.2.2.1, y10.2.2.2.2)] : tyN).length) 1353245080339) then
 (some ((p8 ++ ([(y10.1, y10.2.1, y10.2.2.1, y10.2.2.2.1, y10.2.2.2.2)] : tyN)) : tyN)).bind fun z11 =>
 f_spec_l6Copy.l0 n (IntKind.wrap .i64 (p0 + (1 : Int))) p1 p2 p3 p4 p5 p6 p7 z11 p9
 else none
 else none
 else
 some (p1, p2, p3, p4, p5, p6, p7, p8, p9)
noncomputable def f_spec_l6Copy (x0 : Int) (x1 : tyN) (x2 : tyP) : Option (Int × tyN × tyP) :=
 (f_spec_l6Copy.l0 N 0 x0 x1 x2 0 x0 ([] : tyN) ([] : tyP) ([] : tyN) ([] : tyP)).bind fun r0 =>
 (f_spec_l6Copy.l1 N 0 r0.1 r0.2.1 r0.2.2.1 r0.2.2.2.1 r0.2.2.2.2.1 r0.2.2.2.2.2.1 r0.2.2.2.2.2.2.1 r0.2.2.2.2.2.2.2.1 r0.2.2.2.2.2.2.2.2).bind fun r1 =>
 some (r1.2.1, r1.2.2.2.2.1, r1.2.2.2.2.2)
noncomputable def C225 : Con := ⟨[(.B, true, [iI, (.sl R8), (.sl R9)])], [(true, [iI, (.sl R8), (.sl R9)])], [iI, (.sl R8), (.sl R9)], [iI, (.sl R8), (.sl R9)], fun (p : Int × tyN × tyP) => f_spec_l6Copy p.1 p.2.1 p.2.2⟩
noncomputable abbrev f_spec_l6Copy.l0.u (n : Nat) := fun (p : Int × Int × tyN × tyP × Int × Int × tyN × tyP × tyN × tyP) => f_spec_l6Copy.l0 n p.1 p.2.1 p.2.2.1 p.2.2.2.1 p.2.2.2.2.1 p.2.2.2.2.2.1 p.2.2.2.2.2.2.1 p.2.2.2.2.2.2.2.1 p.2.2.2.2.2.2.2.2.1 p.2.2.2.2.2.2.2.2.2
noncomputable def f_spec_l6Copy.l0.c : LoopCon := ⟨1000, 6, [1, 2, 3, 4], ⟨[(1, .ptr 1000 0), (2, .ptr 1001 0), (3, .ptr 1002 0), (4, i0)], [(1000, .box [i0, bN R8, bN R9]), (1001, .box [i0, .ref 1003 [] none, .ref 1004 [] none]), (1002, .box [i0, .ref 1005 [] none, .ref 1006 [] none]), (1003, .row R8 []), (1004, .row R9 []), (1005, .row R8 []), (1006, .row R9 [])], 1007⟩, [iI, iI, (.sl R8), (.sl R9), iI, iI, (.sl R8), (.sl R9), (.sl R8), (.sl R9)], [⟨.exit 0, [1, 2, 3], ⟨[(1, .ptr 1000 0), (2, .ptr 1001 0), (3, .ptr 1002 0)], [(1000, .box [i0, bN R8, bN R9]), (1001, .box [i0, .ref 1003 [] none, .ref 1004 [] none]), (1002, .box [i0, .ref 1005 [] none, .ref 1006 [] none]), (1003, .row R8 []), (1004, .row R9 []), (1005, .row R8 []), (1006, .row R9 [])], 1007⟩, [iI, (.sl R8), (.sl R9), iI, iI, (.sl R8), (.sl R9), (.sl R8), (.sl R9)]⟩], f_spec_l6Copy.l0.u N⟩
noncomputable abbrev f_spec_l6Copy.l1.u (n : Nat) := fun (p : Int × Int × tyN × tyP × Int × Int × tyN × tyP × tyN × tyP) => f_spec_l6Copy.l1 n p.1 p.2.1 p.2.2.1 p.2.2.2.1 p.2.2.2.2.1 p.2.2.2.2.2.1 p.2.2.2.2.2.2.1 p.2.2.2.2.2.2.2.1 p.2.2.2.2.2.2.2.2.1 p.2.2.2.2.2.2.2.2.2
noncomputable def f_spec_l6Copy.l1.c : LoopCon := ⟨1000, 6, [1, 2, 3, 5], ⟨[(1, .ptr 1000 0), (2, .ptr 1001 0), (3, .ptr 1002 0), (5, i0)], [(1000, .box [i0, bN R8, bN R9]), (1001, .box [i0, .ref 1003 [] none, .ref 1004 [] none]), (1002, .box [i0, .ref 1005 [] none, .ref 1006 [] none]), (1003, .row R8 []), (1004, .row R9 []), (1005, .row R8 []), (1006, .row R9 [])], 1007⟩, [iI, iI, (.sl R8), (.sl R9), iI, iI, (.sl R8), (.sl R9), (.sl R8), (.sl R9)], [⟨.exit 2, [2, 3], ⟨[(2, .ptr 1000 0), (3, .ptr 1001 0)], [(1000, .box [i0, .ref 1002 [] none, .ref 1003 [] none]), (1001, .box [i0, .ref 1004 [] none, .ref 1005 [] none]), (1002, .row R8 []), (1003, .row R9 []), (1004, .row R8 []), (1005, .row R9 [])], 1006⟩, [iI, iI, (.sl R8), (.sl R9), (.sl R8), (.sl R9)]⟩], f_spec_l6Copy.l1.u N⟩
noncomputable abbrev K225 : Cons := [(77, C77), (228, C228)]
noncomputable abbrev L225 : List (Nat × Loops) := [(225, [(3, f_spec_l6Copy.l0.c), (7, f_spec_l6Copy.l1.c)])]
abbrev Q225 : List (Nat × List (Int × Nat) × Nat) := []
noncomputable abbrev X225 : Nat → Ctx := ctxOf tb K225 L225 Q225
theorem f_spec_l6Copy.l0.ok : ∀ n p, f_spec_l6Copy.l0.u n p = iterD (roundOf fs X225 6 225 3 false f_spec_l6Copy.l0.c) n p :=
 iter_of (l := f_spec_l6Copy.l0.u) (fun _ => rfl) (fun n p => by kernel_rfl)
theorem f_spec_l6Copy.l1.ok : ∀ n p, f_spec_l6Copy.l1.u n p = iterD (roundOf fs X225 6 225 7 false f_spec_l6Copy.l1.c) n p :=
 iter_of (l := f_spec_l6Copy.l1.u) (fun _ => rfl) (fun n p => by kernel_rfl)
theorem E225 : ∀ x, funRun fs X225 6 225 C225 x = C225.fn x := fun x => by kernel_rfl
theorem B225 : ConB Tryz.prog 225 C225 := ConB.make FS MIX TY (cons := K225) (L := L225) (ptrs := Q225) ⟨S77, S228, trivial⟩ trivial ⟨⟨⟨N, fun p => f_spec_l6Copy.l0.ok N p⟩, ⟨N, fun p => f_spec_l6Copy.l1.ok N p⟩, trivial⟩, trivial⟩ rfl rfl E225
theorem S225 : ConS Tryz.prog 225 C225 := B225.call rfl
noncomputable def f_spec_Acked (x0 : Int) (x1 : tyM) (x2 : Int) : Option (Int × tyM) :=
 (f_spec_l2Sender x0 x1).bind fun y0 =>
 (f_spec_SenderOk x0 x1).bind fun y1 =>
 bif (!y1) then
 some (y0.1, y0.2)
 else
 bif (decide (x2 ≤ x0)) then
 some (y0.1, y0.2)
 else
 bif (decide ((IntKind.wrap .i64 (x0 + (x1.length : Int))) < x2)) then
 some (y0.1, y0.2)
 else
 bif ((decide ((0 : Int) ≤ (IntKind.wrap .i64 (x2 - x0)))) && (decide ((IntKind.wrap .i64 (x2 - x0)) ≤ (y0.2.length : Int)))) then
 bif (Nat.blt (([] : tyM).length + ((y0.2.drop (IntKind.wrap .i64 (x2 - x0)).toNat).take ((y0.2.length : Int) - (IntKind.wrap .i64 (x2 - x0))).toNat).length) 2932031007402) then
 (some ((([] : tyM) ++ ((y0.2.drop (IntKind.wrap .i64 (x2 - x0)).toNat).take ((y0.2.length : Int) - (IntKind.wrap .i64 (x2 - x0))).toNat)) : tyM)).bind fun z2 =>
 some (x2, z2)
 else none
 else none
noncomputable def C231 : Con := ⟨[(.B, true, [iI, (.sl R6)]), (.B, false, [iI])], [(true, [iI, (.sl R6)])], [iI, (.sl R6), iI], [iI, (.sl R6)], fun (p : Int × tyM × Int) => f_spec_Acked p.1 p.2.1 p.2.2⟩
noncomputable abbrev K231 : Cons := [(132, C132), (153, C153)]
noncomputable abbrev L231 : List (Nat × Loops) := []
abbrev Q231 : List (Nat × List (Int × Nat) × Nat) := []
noncomputable abbrev X231 : Nat → Ctx := ctxOf tb K231 L231 Q231
theorem E231 : ∀ x, funRun fs X231 6 231 C231 x = C231.fn x := fun x => by kernel_rfl
theorem B231 : ConB Tryz.prog 231 C231 := ConB.make FS MIX TY (cons := K231) (L := L231) (ptrs := Q231) ⟨S132, S153, trivial⟩ trivial trivial rfl rfl E231
theorem S231 : ConS Tryz.prog 231 C231 := B231.call rfl
noncomputable def f_spec_Arrived (x0 : Int) (x1 : Int) : Option (Int × Bool) :=
 bif (!(decide (x1 = x0))) then
 some (x0, false)
 else
 (f_spec_l1In x0 0 99999).bind fun y0 =>
 bif (!y0) then
 some (x0, false)
 else
 some ((IntKind.wrap .i64 (x0 + (1 : Int))), true)
noncomputable def C232 : Con := ⟨[(.B, true, [iI]), (.B, false, [iI])], [(true, [iI]), (false, [.bool])], [iI, iI], [iI, .bool], fun (p : Int × Int) => f_spec_Arrived p.1 p.2⟩
noncomputable abbrev K232 : Cons := [(60, C60)]
noncomputable abbrev L232 : List (Nat × Loops) := []
abbrev Q232 : List (Nat × List (Int × Nat) × Nat) := []
noncomputable abbrev X232 : Nat → Ctx := ctxOf tb K232 L232 Q232
theorem E232 : ∀ x, funRun fs X232 6 232 C232 x = C232.fn x := fun x => by kernel_rfl
theorem B232 : ConB Tryz.prog 232 C232 := ConB.make FS MIX TY (cons := K232) (L := L232) (ptrs := Q232) ⟨S60, trivial⟩ trivial trivial rfl rfl E232
theorem S232 : ConS Tryz.prog 232 C232 := B232.call rfl
noncomputable def f_spec_l4Tell (x0 : List Int) (x1 : Int) (x2 : List Bool) (x3 : Bool) (x4 : Int) (x5 : Bool) (x6 : Int) (x7 : tyW) (x8 : Int) (x9 : tyT) (x10 : Int) (x11 : Int) (x12 : Int) (x13 : Bool) (x14 : List Int) : Option (List Int × Int × List Bool × Bool × Int × Bool × Int × tyW × Int × tyT) :=
 bif (Nat.blt (x9.length + ([(x10, x11, x8, x13, x14)] : tyT).length) 2513169434916) then
 (some ((x9 ++ ([(x10, x11, x8, x13, x14)] : tyT)) : tyT)).bind fun z0 =>
 some (x0, x1, x2, x3, x4, x5, x6, x7, x8, z0)
 else none
noncomputable def C216 : Con := ⟨[(.P [true, true, true, true, true, true, true, true, true, true], false, [(.sl R1), iI, (.sl R2), .bool, iI, .bool, iI, (.sl R3), iI, (.sl R10)]), (.B, false, [iI]), (.M, true, [iI, iI, .bool, (.sl R1)])], [], [(.sl R1), iI, (.sl R2), .bool, iI, .bool, iI, (.sl R3), iI, (.sl R10), iI, iI, iI, .bool, (.sl R1)], [(.sl R1), iI, (.sl R2), .bool, iI, .bool, iI, (.sl R3), iI, (.sl R10)], fun (p : List Int × Int × List Bool × Bool × Int × Bool × Int × tyW × Int × tyT × Int × Int × Int × Bool × List Int) => f_spec_l4Tell p.1 p.2.1 p.2.2.1 p.2.2.2.1 p.2.2.2.2.1 p.2.2.2.2.2.1 p.2.2.2.2.2.2.1 p.2.2.2.2.2.2.2.1 p.2.2.2.2.2.2.2.2.1 p.2.2.2.2.2.2.2.2.2.1 p.2.2.2.2.2.2.2.2.2.2.1 p.2.2.2.2.2.2.2.2.2.2.2.1 p.2.2.2.2.2.2.2.2.2.2.2.2.1 p.2.2.2.2.2.2.2.2.2.2.2.2.2.1 p.2.2.2.2.2.2.2.2.2.2.2.2.2.2⟩
noncomputable abbrev K216 : Cons := []
noncomputable abbrev L216 : List (Nat × Loops) := []
abbrev Q216 : List (Nat × List (Int × Nat) × Nat) := []
noncomputable abbrev X216 : Nat → Ctx := ctxOf tb K216 L216 Q216
theorem E216 : ∀ x, funG fs X216 6 216 C216 x = C216.fn x := fun x => by kernel_rfl
theorem B216 : ConG Tryz.prog 216 C216 := ConG.make FS MIX TY (cons := K216) (L := L216) (ptrs := Q216) trivial trivial trivial rfl (by kernel_rfl) E216
theorem S216 : ConS Tryz.prog 216 C216 := B216.call (by kernel_rfl)
noncomputable def f_spec_l4Give (x0 : List Int) (x1 : Int) (x2 : List Bool) (x3 : Bool) (x4 : Int) (x5 : Bool) (x6 : Int) (x7 : tyW) (x8 : Int) (x9 : tyT) : Option (List Int × Int × List Bool × Bool × Int × Bool × Int × tyW × Int × tyT) :=
 bif (Nat.blt (([] : List Int).length + x0.length) 17592186044416) then
 (some ((([] : List Int) ++ x0) : List Int)).bind fun z0 =>
 (f_spec_l4Tell x0 x1 x2 x3 x4 x5 x6 x7 x8 x9 x4 3 0 x5 z0).bind fun y1 =>
 bif ((decide ((0 : Int) ≤ x4)) && (decide (x4 < (y1.2.2.1.length : Int)))) then
 (some ((y1.2.2.1.set x4.toNat (!x5)) : List Bool)).bind fun z2 =>
 bif x5 then
 some (y1.1, x4, z2, false, 0, false, y1.2.2.2.2.2.2.1, y1.2.2.2.2.2.2.2.1, y1.2.2.2.2.2.2.2.2.1, y1.2.2.2.2.2.2.2.2.2)
 else
 some (y1.1, y1.2.1, z2, false, 0, false, y1.2.2.2.2.2.2.1, y1.2.2.2.2.2.2.2.1, y1.2.2.2.2.2.2.2.2.1, y1.2.2.2.2.2.2.2.2.2)
 else none
 else none
noncomputable def C215 : Con := ⟨[(.P [true, true, true, true, true, true, true, true, true, true], false, [(.sl R1), iI, (.sl R2), .bool, iI, .bool, iI, (.sl R3), iI, (.sl R10)])], [], [(.sl R1), iI, (.sl R2), .bool, iI, .bool, iI, (.sl R3), iI, (.sl R10)], [(.sl R1), iI, (.sl R2), .bool, iI, .bool, iI, (.sl R3), iI, (.sl R10)], fun (p : List Int × Int × List Bool × Bool × Int × Bool × Int × tyW × Int × tyT) => f_spec_l4Give p.1 p.2.1 p.2.2.1 p.2.2.2.1 p.2.2.2.2.1 p.2.2.2.2.2.1 p.2.2.2.2.2.2.1 p.2.2.2.2.2.2.2.1 p.2.2.2.2.2.2.2.2.1 p.2.2.2.2.2.2.2.2.2⟩
noncomputable abbrev K215 : Cons := [(216, C216)]
noncomputable abbrev L215 : List (Nat × Loops) := []
abbrev Q215 : List (Nat × List (Int × Nat) × Nat) := []
noncomputable abbrev X215 : Nat → Ctx := ctxOf tb K215 L215 Q215
theorem E215 : ∀ x, funG fs X215 6 215 C215 x = C215.fn x := fun x => by kernel_rfl
theorem B215 : ConG Tryz.prog 215 C215 := ConG.make FS MIX TY (cons := K215) (L := L215) (ptrs := Q215) ⟨S216, trivial⟩ trivial trivial rfl (by kernel_rfl) E215
theorem S215 : ConS Tryz.prog 215 C215 := B215.call (by kernel_rfl)
noncomputable def f_spec_l4Hear (x0 : List Int) (x1 : Int) (x2 : List Bool) (x3 : Bool) (x4 : Int) (x5 : Bool) (x6 : Int) (x7 : tyW) (x8 : Int) (x9 : tyT) (x10 : Int) (x11 : Int) (x12 : Int) (x13 : Bool) (x14 : List Int) : Option (Bool × List Int × Int × List Bool × Bool × Int × Bool × Int × tyW × Int × tyT) :=
 bif (decide (x11 = (1 : Int))) then
 bif (decide ((x7.length : Int) = (12 : Int))) then
 some (false, x0, x1, x2, x3, x4, x5, x6, x7, x8, x9)
 else
 bif (Nat.blt (x7.length + ([(x10, (decide (x11 = (2 : Int))))] : tyW).length) 8796093022208) then
 (some ((x7 ++ ([(x10, (decide (x11 = (2 : Int))))] : tyW)) : tyW)).bind fun z0 =>
 some (true, x0, x1, x2, x3, x4, x5, x6, z0, x8, x9)
 else none
 else
 bif (decide (x11 = (2 : Int))) then
 bif (decide ((x7.length : Int) = (12 : Int))) then
 some (false, x0, x1, x2, x3, x4, x5, x6, x7, x8, x9)
 else
 bif (Nat.blt (x7.length + ([(x10, (decide (x11 = (2 : Int))))] : tyW).length) 8796093022208) then
 (some ((x7 ++ ([(x10, (decide (x11 = (2 : Int))))] : tyW)) : tyW)).bind fun z1 =>
 some (true, x0, x1, x2, x3, x4, x5, x6, z1, x8, x9)
 else none
 else
 bif (decide (x11 = (5 : Int))) then
 bif (!x3) then
 some (false, x0, x1, x2, x3, x4, x5, x6, x7, x8, x9)
 else
 bif (decide (x6 = (0 : Int))) then
 some (false, x0, x1, x2, x3, x4, x5, x6, x7, x8, x9)
 else
 bif (decide ((IntKind.wrap .i64 (x6 - (1 : Int))) = (0 : Int))) then
 (f_spec_l4Give x0 x1 x2 x3 x4 x5 (IntKind.wrap .i64 (x6 - (1 : Int))) x7 x8 x9).bind fun y2 =>
 some (true, y2.1, y2.2.1, y2.2.2.1, y2.2.2.2.1, y2.2.2.2.2.1, y2.2.2.2.2.2.1, y2.2.2.2.2.2.2.1, y2.2.2.2.2.2.2.2.1, y2.2.2.2.2.2.2.2.2.1, y2.2.2.2.2.2.2.2.2.2)
 else
 some (true, x0, x1, x2, x3, x4, x5, (IntKind.wrap .i64 (x6 - (1 : Int))), x7, x8, x9)
 else
 bif (decide (x11 = (7 : Int))) then
 bif (!x3) then
 some (false, x0, x1, x2, x3, x4, x5, x6, x7, x8, x9)
 else
 bif (decide ((0 : Int) < x6)) then
 some (false, x0, x1, x2, x3, x4, x5, x6, x7, x8, x9)
 else
 bif (!(decide (x10 = x1))) then
 some (false, x0, x1, x2, x3, x4, x5, x6, x7, x8, x9)
 else
 bif (Nat.blt (([] : List Int).length + x14.length) 17592186044416) then
 (some ((([] : List Int) ++ x14) : List Int)).bind fun z3 =>
 bif ((decide ((0 : Int) ≤ x10)) && (decide (x10 < (x2.length : Int)))) then
 (some ((x2.set x10.toNat (!x5)) : List Bool)).bind fun z4 =>
 (f_spec_l4Give z3 (-1) z4 x3 x4 x5 x6 x7 x8 x9).bind fun y5 =>
 some (true, y5.1, y5.2.1, y5.2.2.1, y5.2.2.2.1, y5.2.2.2.2.1, y5.2.2.2.2.2.1, y5.2.2.2.2.2.2.1, y5.2.2.2.2.2.2.2.1, y5.2.2.2.2.2.2.2.2.1, y5.2.2.2.2.2.2.2.2.2)
 else none
 else none
 else
 some (false, x0, x1, x2, x3, x4, x5, x6, x7, x8, x9)
noncomputable def C183 : Con := ⟨[(.P [true, true, true, true, true, true, true, true, true, true], false, [(.sl R1), iI, (.sl R2), .bool, iI, .bool, iI, (.sl R3), iI, (.sl R10)]), (.B, false, [iI]), (.B, true, [iI, iI, .bool, (.sl R1)])], [(false, [.bool])], [(.sl R1), iI, (.sl R2), .bool, iI, .bool, iI, (.sl R3), iI, (.sl R10), iI, iI, iI, .bool, (.sl R1)], [.bool, (.sl R1), iI, (.sl R2), .bool, iI, .bool, iI, (.sl R3), iI, (.sl R10)], fun (p : List Int × Int × List Bool × Bool × Int × Bool × Int × tyW × Int × tyT × Int × Int × Int × Bool × List Int) => f_spec_l4Hear p.1 p.2.1 p.2.2.1 p.2.2.2.1 p.2.2.2.2.1 p.2.2.2.2.2.1 p.2.2.2.2.2.2.1 p.2.2.2.2.2.2.2.1 p.2.2.2.2.2.2.2.2.1 p.2.2.2.2.2.2.2.2.2.1 p.2.2.2.2.2.2.2.2.2.2.1 p.2.2.2.2.2.2.2.2.2.2.2.1 p.2.2.2.2.2.2.2.2.2.2.2.2.1 p.2.2.2.2.2.2.2.2.2.2.2.2.2.1 p.2.2.2.2.2.2.2.2.2.2.2.2.2.2⟩
noncomputable abbrev K183 : Cons := [(215, C215)]
noncomputable abbrev L183 : List (Nat × Loops) := []
abbrev Q183 : List (Nat × List (Int × Nat) × Nat) := []
noncomputable abbrev X183 : Nat → Ctx := ctxOf tb K183 L183 Q183
theorem E183 : ∀ x, funG fs X183 6 183 C183 x = C183.fn x := fun x => by kernel_rfl
theorem B183 : ConG Tryz.prog 183 C183 := ConG.make FS MIX TY (cons := K183) (L := L183) (ptrs := Q183) ⟨S215, trivial⟩ trivial trivial rfl (by kernel_rfl) E183
theorem S183 : ConS Tryz.prog 183 C183 := B183.call (by kernel_rfl)
noncomputable def f_spec_l4Next.l0 : Nat → Int → Int → Bool → Int → Bool → Int → Int → (List Int) → (List Bool) → tyW → tyT → Option (Int × Bool × Int × Bool × Int × Int × List Int × List Bool × tyW × tyT)
 | 0, _, _, _, _, _, _, _, _, _, _, _ => none
 | n + 1, p0, p1, p2, p3, p4, p5, p6, p7, p8, p9, p10 =>
 bif (decide (p0 < (p8.length : Int))) then
 bif p4 then
 bif ((decide ((0 : Int) ≤ p0)) && (decide (p0 < (p8.length : Int)))) then
 bif (p8.getD p0.toNat false) then
 bif (!(decide (p0 = p3))) then
 (f_spec_l4Tell p7 p1 p8 p2 p3 p4 p5 p9 p6 p10 p0 4 0 false []).bind fun y11 =>
 bif ((decide ((0 : Int) ≤ p0)) && (decide (p0 < (y11.2.2.1.length : Int)))) then
 (some ((y11.2.2.1.set p0.toNat false) : List Bool)).bind fun z12 =>
 f_spec_l4Next.l0 n (IntKind.wrap .i64 (p0 + (1 : Int))) y11.2.1 y11.2.2.2.1 y11.2.2.2.2.1 y11.2.2.2.2.2.1 (IntKind.wrap .i64 (y11.2.2.2.2.2.2.1 + (1 : Int))) y11.2.2.2.2.2.2.2.2.1 y11.1 z12 y11.2.2.2.2.2.2.2.1 y11.2.2.2.2.2.2.2.2.2
 else none
 else
 f_spec_l4Next.l0 n (IntKind.wrap .i64 (p0 + (1 : Int))) p1 p2 p3 p4 p5 p6 p7 p8 p9 p10
 else
 f_spec_l4Next.l0 n (IntKind.wrap .i64 (p0 + (1 : Int))) p1 p2 p3 p4 p5 p6 p7 p8 p9 p10
 else none
 else
 some (p1, p2, p3, p4, p5, p6, p7, p8, p9, p10)
 else
 some (p1, p2, p3, p4, p5, p6, p7, p8, p9, p10)
noncomputable def f_spec_l4Next (x0 : List Int) (x1 : Int) (x2 : List Bool) (x3 : Bool) (x4 : Int) (x5 : Bool) (x6 : Int) (x7 : tyW) (x8 : Int) (x9 : tyT) : Option (List Int × Int × List Bool × Bool × Int × Bool × Int × tyW × Int × tyT) :=
 bif (decide ((0 : Int) < (x7.length : Int))) then
 bif (decide ((1 : Int) ≤ (x7.length : Int))) then
 bif (Nat.blt (([] : tyW).length + ((x7.drop 1).take ((x7.length : Int) - (1 : Int)).toNat).length) 8796093022208) then
 (some ((([] : tyW) ++ ((x7.drop 1).take ((x7.length : Int) - (1 : Int)).toNat)) : tyW)).bind fun z0 =>
 bif (decide ((0 : Int) ≤ x1)) then
 (f_spec_l4Tell x0 x1 x2 true ((x7.getD 0 (0, false)).1) ((x7.getD 0 (0, false)).2) x6 z0 x8 x9 x1 6 0 ((x7.getD 0 (0, false)).2) []).bind fun y1 =>
 some (y1.1, y1.2.1, y1.2.2.1, y1.2.2.2.1, y1.2.2.2.2.1, y1.2.2.2.2.2.1, y1.2.2.2.2.2.2.1, y1.2.2.2.2.2.2.2.1, y1.2.2.2.2.2.2.2.2.1, y1.2.2.2.2.2.2.2.2.2)
 else
 (f_spec_l4Next.l0 N 0 x1 true ((x7.getD 0 (0, false)).1) ((x7.getD 0 (0, false)).2) 0 x8 x0 x2 z0 x9).bind fun r2 =>
 bif (decide (r2.2.2.2.2.1 = (0 : Int))) then
 (f_spec_l4Give r2.2.2.2.2.2.2.1 r2.1 r2.2.2.2.2.2.2.2.1 r2.2.1 r2.2.2.1 r2.2.2.2.1 r2.2.2.2.2.1 r2.2.2.2.2.2.2.2.2.1 r2.2.2.2.2.2.1 r2.2.2.2.2.2.2.2.2.2).bind fun y3 =>
 some (y3.1, y3.2.1, y3.2.2.1, y3.2.2.2.1, y3.2.2.2.2.1, y3.2.2.2.2.2.1, y3.2.2.2.2.2.2.1, y3.2.2.2.2.2.2.2.1, y3.2.2.2.2.2.2.2.2.1, y3.2.2.2.2.2.2.2.2.2)
 else
 some (r2.2.2.2.2.2.2.1, r2.1, r2.2.2.2.2.2.2.2.1, r2.2.1, r2.2.2.1, r2.2.2.2.1, r2.2.2.2.2.1, r2.2.2.2.2.2.2.2.2.1, r2.2.2.2.2.2.1, r2.2.2.2.2.2.2.2.2.2)
 else none
 else none
 else none
noncomputable def C184 : Con := ⟨[(.P [true, true, true, true, true, true, true, true, true, true], false, [(.sl R1), iI, (.sl R2), .bool, iI, .bool, iI, (.sl R3), iI, (.sl R10)])], [], [(.sl R1), iI, (.sl R2), .bool, iI, .bool, iI, (.sl R3), iI, (.sl R10)], [(.sl R1), iI, (.sl R2), .bool, iI, .bool, iI, (.sl R3), iI, (.sl R10)], fun (p : List Int × Int × List Bool × Bool × Int × Bool × Int × tyW × Int × tyT) => f_spec_l4Next p.1 p.2.1 p.2.2.1 p.2.2.2.1 p.2.2.2.2.1 p.2.2.2.2.2.1 p.2.2.2.2.2.2.1 p.2.2.2.2.2.2.2.1 p.2.2.2.2.2.2.2.2.1 p.2.2.2.2.2.2.2.2.2⟩
noncomputable abbrev f_spec_l4Next.l0.u (n : Nat) := fun (p : Int × Int × Bool × Int × Bool × Int × Int × List Int × List Bool × tyW × tyT) => f_spec_l4Next.l0 n p.1 p.2.1 p.2.2.1 p.2.2.2.1 p.2.2.2.2.1 p.2.2.2.2.2.1 p.2.2.2.2.2.2.1 p.2.2.2.2.2.2.2.1 p.2.2.2.2.2.2.2.2.1 p.2.2.2.2.2.2.2.2.2.1 p.2.2.2.2.2.2.2.2.2.2
noncomputable def f_spec_l4Next.l0.c : LoopCon := ⟨1000, 6, [0, 2], ⟨[(0, .ptr 500 0), (2, i0)], [(500, .box [.ref 1000 [] none, i0, .ref 1001 [] none, .bool false, i0, .bool false, i0, .ref 1002 [] none, i0, .ref 1003 [] none]), (1000, .row R1 []), (1001, .row R2 []), (1002, .row R3 []), (1003, .row R10 [])], 1004⟩, [iI, iI, .bool, iI, .bool, iI, iI, (.sl R1), (.sl R2), (.sl R3), (.sl R10)], [⟨.exit 0, [0], ⟨[(0, .ptr 500 0)], [(500, .box [.ref 1000 [] none, i0, .ref 1001 [] none, .bool false, i0, .bool false, i0, .ref 1002 [] none, i0, .ref 1003 [] none]), (1000, .row R1 []), (1001, .row R2 []), (1002, .row R3 []), (1003, .row R10 [])], 1004⟩, [iI, .bool, iI, .bool, iI, iI, (.sl R1), (.sl R2), (.sl R3), (.sl R10)]⟩], f_spec_l4Next.l0.u N⟩
noncomputable abbrev K184 : Cons := [(215, C215), (216, C216)]
noncomputable abbrev L184 : List (Nat × Loops) := [(184, [(7, f_spec_l4Next.l0.c)])]
abbrev Q184 : List (Nat × List (Int × Nat) × Nat) := []
noncomputable abbrev X184 : Nat → Ctx := ctxOf tb K184 L184 Q184
theorem f_spec_l4Next.l0.ok : ∀ n p, f_spec_l4Next.l0.u n p = iterD (roundOf fs X184 6 184 7 false f_spec_l4Next.l0.c) n p :=
 iter_of (l := f_spec_l4Next.l0.u) (fun _ => rfl) (fun n p => by kernel_rfl)
theorem E184 : ∀ x, funG fs X184 6 184 C184 x = C184.fn x := fun x => by kernel_rfl
theorem B184 : ConG Tryz.prog 184 C184 := ConG.make FS MIX TY (cons := K184) (L := L184) (ptrs := Q184) ⟨S215, S216, trivial⟩ trivial ⟨⟨⟨N, fun p => f_spec_l4Next.l0.ok N p⟩, trivial⟩, trivial⟩ rfl (by kernel_rfl) E184
theorem S184 : ConS Tryz.prog 184 C184 := B184.call (by kernel_rfl)
noncomputable def f_spec_HomeHear.l0 : Nat → Int → Bool → Int → Bool → Int → Int → Bool → Int → Bool → Int → Int → (List Int) → (List Bool) → tyW → (List Int) → (List Bool) → tyW → tyT → Option (Int × Bool × Int × Bool × Int × Int × Bool × Int × Bool × Int × Int × List Int × List Bool × tyW × List Int × List Bool × tyW × tyT)
 | 0, _, _, _, _, _, _, _, _, _, _, _, _, _, _, _, _, _, _ => none
 | n + 1, p0, p1, p2, p3, p4, p5, p6, p7, p8, p9, p10, p11, p12, p13, p14, p15, p16, p17 =>
 bif (!p6) then
 bif (decide ((0 : Int) < (p16.length : Int))) then
 (f_spec_l4Next p14 p5 p15 p6 p7 p8 p9 p16 p10 p17).bind fun y18 =>
 f_spec_HomeHear.l0 n p0 p1 p2 p3 p4 y18.2.1 y18.2.2.2.1 y18.2.2.2.2.1 y18.2.2.2.2.2.1 y18.2.2.2.2.2.2.1 y18.2.2.2.2.2.2.2.2.1 p11 p12 p13 y18.1 y18.2.2.1 y18.2.2.2.2.2.2.2.1 y18.2.2.2.2.2.2.2.2.2
 else
 some (p0, p1, p2, p3, p4, p5, p6, p7, p8, p9, p10, p11, p12, p13, p14, p15, p16, p17)
 else
 some (p0, p1, p2, p3, p4, p5, p6, p7, p8, p9, p10, p11, p12, p13, p14, p15, p16, p17)
noncomputable def f_spec_HomeHear (x0 : List Int) (x1 : Int) (x2 : List Bool) (x3 : Bool) (x4 : Int) (x5 : Bool) (x6 : Int) (x7 : tyW) (x8 : Int) (x9 : Int) (x10 : Int) (x11 : Int) (x12 : Int) (x13 : Bool) (x14 : List Int) : Option (List Int × Int × List Bool × Bool × Int × Bool × Int × tyW × tyT) :=
 (f_spec_HomeOk x0 x1 x2 x3 x4 x5 x6 x7 x8).bind fun y0 =>
 bif (!y0) then
 (f_spec_l4Copy x0 x1 x2 x3 x4 x5 x6 x7).bind fun y1 =>
 some (y1.1, y1.2.1, y1.2.2.1, y1.2.2.2.1, y1.2.2.2.2.1, y1.2.2.2.2.2.1, y1.2.2.2.2.2.2.1, y1.2.2.2.2.2.2.2, ([] : tyT))
 else
 (f_spec_MsgOk x11 x12 x13 x14).bind fun y2 =>
 bif (!y2) then
 (f_spec_l4Copy x0 x1 x2 x3 x4 x5 x6 x7).bind fun y3 =>
 some (y3.1, y3.2.1, y3.2.2.1, y3.2.2.2.1, y3.2.2.2.2.1, y3.2.2.2.2.2.1, y3.2.2.2.2.2.2.1, y3.2.2.2.2.2.2.2, ([] : tyT))
 else
 (f_spec_l1In x10 0 (IntKind.wrap .i64 (x8 - (1 : Int)))).bind fun y4 =>
 bif (!y4) then
 (f_spec_l4Copy x0 x1 x2 x3 x4 x5 x6 x7).bind fun y5 =>
 some (y5.1, y5.2.1, y5.2.2.1, y5.2.2.2.1, y5.2.2.2.2.1, y5.2.2.2.2.2.1, y5.2.2.2.2.2.2.1, y5.2.2.2.2.2.2.2, ([] : tyT))
 else
 bif (!(decide (x12 = x9))) then
 (f_spec_l4Copy x0 x1 x2 x3 x4 x5 x6 x7).bind fun y6 =>
 some (y6.1, y6.2.1, y6.2.2.1, y6.2.2.2.1, y6.2.2.2.2.1, y6.2.2.2.2.2.1, y6.2.2.2.2.2.2.1, y6.2.2.2.2.2.2.2, ([] : tyT))
 else
 (f_spec_l4Copy x0 x1 x2 x3 x4 x5 x6 x7).bind fun y7 =>
 (f_spec_l4Hear y7.1 y7.2.1 y7.2.2.1 y7.2.2.2.1 y7.2.2.2.2.1 y7.2.2.2.2.2.1 y7.2.2.2.2.2.2.1 y7.2.2.2.2.2.2.2 x9 [] x10 x11 x12 x13 x14).bind fun y8 =>
 bif (!y8.1) then
 (f_spec_l4Copy x0 x1 x2 x3 x4 x5 x6 x7).bind fun y9 =>
 some (y9.1, y9.2.1, y9.2.2.1, y9.2.2.2.1, y9.2.2.2.2.1, y9.2.2.2.2.2.1, y9.2.2.2.2.2.2.1, y9.2.2.2.2.2.2.2, ([] : tyT))
 else
 (f_spec_HomeHear.l0 N 0 false 0 false 0 y8.2.2.1 y8.2.2.2.2.1 y8.2.2.2.2.2.1 y8.2.2.2.2.2.2.1 y8.2.2.2.2.2.2.2.1 y8.2.2.2.2.2.2.2.2.2.1 ([] : List Int) ([] : List Bool) ([] : tyW) y8.2.1 y8.2.2.2.1 y8.2.2.2.2.2.2.2.2.1 y8.2.2.2.2.2.2.2.2.2.2).bind fun r10 =>
 some (r10.2.2.2.2.2.2.2.2.2.2.2.2.2.2.1, r10.2.2.2.2.2.1, r10.2.2.2.2.2.2.2.2.2.2.2.2.2.2.2.1, r10.2.2.2.2.2.2.1, r10.2.2.2.2.2.2.2.1, r10.2.2.2.2.2.2.2.2.1, r10.2.2.2.2.2.2.2.2.2.1, r10.2.2.2.2.2.2.2.2.2.2.2.2.2.2.2.2.1, r10.2.2.2.2.2.2.2.2.2.2.2.2.2.2.2.2.2)
noncomputable def C114 : Con := ⟨[(.B, true, [(.sl R1), iI, (.sl R2), .bool, iI, .bool, iI, (.sl R3)]), (.B, false, [iI]), (.B, false, [iI]), (.B, false, [iI]), (.B, true, [iI, iI, .bool, (.sl R1)])], [(true, [(.sl R1), iI, (.sl R2), .bool, iI, .bool, iI, (.sl R3)]), (false, [(.sl R10)])], [(.sl R1), iI, (.sl R2), .bool, iI, .bool, iI, (.sl R3), iI, iI, iI, iI, iI, .bool, (.sl R1)], [(.sl R1), iI, (.sl R2), .bool, iI, .bool, iI, (.sl R3), (.sl R10)], fun (p : List Int × Int × List Bool × Bool × Int × Bool × Int × tyW × Int × Int × Int × Int × Int × Bool × List Int) => f_spec_HomeHear p.1 p.2.1 p.2.2.1 p.2.2.2.1 p.2.2.2.2.1 p.2.2.2.2.2.1 p.2.2.2.2.2.2.1 p.2.2.2.2.2.2.2.1 p.2.2.2.2.2.2.2.2.1 p.2.2.2.2.2.2.2.2.2.1 p.2.2.2.2.2.2.2.2.2.2.1 p.2.2.2.2.2.2.2.2.2.2.2.1 p.2.2.2.2.2.2.2.2.2.2.2.2.1 p.2.2.2.2.2.2.2.2.2.2.2.2.2.1 p.2.2.2.2.2.2.2.2.2.2.2.2.2.2⟩
noncomputable abbrev f_spec_HomeHear.l0.u (n : Nat) := fun (p : Int × Bool × Int × Bool × Int × Int × Bool × Int × Bool × Int × Int × List Int × List Bool × tyW × List Int × List Bool × tyW × tyT) => f_spec_HomeHear.l0 n p.1 p.2.1 p.2.2.1 p.2.2.2.1 p.2.2.2.2.1 p.2.2.2.2.2.1 p.2.2.2.2.2.2.1 p.2.2.2.2.2.2.2.1 p.2.2.2.2.2.2.2.2.1 p.2.2.2.2.2.2.2.2.2.1 p.2.2.2.2.2.2.2.2.2.2.1 p.2.2.2.2.2.2.2.2.2.2.2.1 p.2.2.2.2.2.2.2.2.2.2.2.2.1 p.2.2.2.2.2.2.2.2.2.2.2.2.2.1 p.2.2.2.2.2.2.2.2.2.2.2.2.2.2.1 p.2.2.2.2.2.2.2.2.2.2.2.2.2.2.2.1 p.2.2.2.2.2.2.2.2.2.2.2.2.2.2.2.2.1 p.2.2.2.2.2.2.2.2.2.2.2.2.2.2.2.2.2
noncomputable def f_spec_HomeHear.l0.c : LoopCon := ⟨1000, 6, [10, 11, 12], ⟨[(10, .ptr 1000 0), (11, .nil (some R10)), (12, .ptr 1001 0)], [(1000, .box [.ref 1002 [] none, i0, .ref 1003 [] none, .bool false, i0, .bool false, i0, .ref 1004 [] none]), (1001, .box [.ref 1005 [] none, i0, .ref 1006 [] none, .bool false, i0, .bool false, i0, .ref 1007 [] none, i0, .ref 1008 [] none]), (1002, .row R1 []), (1003, .row R2 []), (1004, .row R3 []), (1005, .row R1 []), (1006, .row R2 []), (1007, .row R3 []), (1008, .row R10 [])], 1009⟩, [iI, .bool, iI, .bool, iI, iI, .bool, iI, .bool, iI, iI, (.sl R1), (.sl R2), (.sl R3), (.sl R1), (.sl R2), (.sl R3), (.sl R10)], [⟨.exit 0, [10, 11, 12], ⟨[(10, .ptr 1000 0), (11, .nil (some R10)), (12, .ptr 1001 0)], [(1000, .box [.ref 1002 [] none, i0, .ref 1003 [] none, .bool false, i0, .bool false, i0, .ref 1004 [] none]), (1001, .box [.ref 1005 [] none, i0, .ref 1006 [] none, .bool false, i0, .bool false, i0, .ref 1007 [] none, i0, .ref 1008 [] none]), (1002, .row R1 []), (1003, .row R2 []), (1004, .row R3 []), (1005, .row R1 []), (1006, .row R2 []), (1007, .row R3 []), (1008, .row R10 [])], 1009⟩, [iI, .bool, iI, .bool, iI, iI, .bool, iI, .bool, iI, iI, (.sl R1), (.sl R2), (.sl R3), (.sl R1), (.sl R2), (.sl R3), (.sl R10)]⟩], f_spec_HomeHear.l0.u N⟩
noncomputable abbrev K114 : Cons := [(60, C60), (113, C113), (131, C131), (152, C152), (183, C183), (184, C184)]
noncomputable abbrev L114 : List (Nat × Loops) := [(114, [(6, f_spec_HomeHear.l0.c)])]
abbrev Q114 : List (Nat × List (Int × Nat) × Nat) := []
noncomputable abbrev X114 : Nat → Ctx := ctxOf tb K114 L114 Q114
theorem f_spec_HomeHear.l0.ok : ∀ n p, f_spec_HomeHear.l0.u n p = iterD (roundOf fs X114 6 114 6 false f_spec_HomeHear.l0.c) n p :=
 iter_of (l := f_spec_HomeHear.l0.u) (fun _ => rfl) (fun n p => by kernel_rfl)
theorem E114 : ∀ x, funRun fs X114 6 114 C114 x = C114.fn x := fun x => by kernel_rfl
theorem B114 : ConB Tryz.prog 114 C114 := ConB.make FS MIX TY (cons := K114) (L := L114) (ptrs := Q114) ⟨S60, S113, S131, S152, S183, S184, trivial⟩ trivial ⟨⟨⟨N, fun p => f_spec_HomeHear.l0.ok N p⟩, trivial⟩, trivial⟩ rfl rfl E114
theorem S114 : ConS Tryz.prog 114 C114 := B114.call rfl
noncomputable def f_spec_l1Bit (x0 : Bool) : Option (Int) :=
 bif x0 then
 some 1
 else
 some 0
noncomputable def C61 : Con := ⟨[(.B, false, [.bool])], [(false, [iI])], [.bool], [iI], fun (p : Bool) => f_spec_l1Bit p⟩
noncomputable abbrev K61 : Cons := []
noncomputable abbrev L61 : List (Nat × Loops) := []
abbrev Q61 : List (Nat × List (Int × Nat) × Nat) := []
noncomputable abbrev X61 : Nat → Ctx := ctxOf tb K61 L61 Q61
theorem E61 : ∀ x, funRun fs X61 6 61 C61 x = C61.fn x := fun x => by kernel_rfl
theorem B61 : ConB Tryz.prog 61 C61 := ConB.make FS MIX TY (cons := K61) (L := L61) (ptrs := Q61) trivial trivial trivial rfl rfl E61
theorem S61 : ConS Tryz.prog 61 C61 := B61.call rfl
noncomputable def f_spec_FrameHear (x0 : Int) (x1 : List Int) (x2 : Bool) (x3 : Int) (x4 : Int) (x5 : Bool) (x6 : List Int) : Option (Int × List Int × Bool × Int × Int × Bool × List Int × Bool) :=
 (f_spec_l3Copy x0 x1 x2).bind fun y0 =>
 (f_spec_FrameOk x0 x1 x2).bind fun y1 =>
 bif (!y1) then
 some (y0.1, y0.2.1, y0.2.2, 0, 0, false, [], false)
 else
 (f_spec_MsgOk x3 x4 x5 x6).bind fun y2 =>
 bif (!y2) then
 some (y0.1, y0.2.1, y0.2.2, 0, 0, false, [], false)
 else
 bif (decide (x3 = (3 : Int))) then
 (f_spec_l1Bit x5).bind fun y3 =>
 bif (Nat.blt (([] : List Int).length + x6.length) 17592186044416) then
 (some ((([] : List Int) ++ x6) : List Int)).bind fun z4 =>
 some ((IntKind.wrap .i64 ((1 : Int) + y3)), z4, false, 0, 0, false, [], false)
 else none
 else
 bif (decide (x3 = (4 : Int))) then
 some (0, [], x2, 5, x4, false, [], true)
 else
 bif (decide (x3 = (6 : Int))) then
 bif (!(decide (x0 = (2 : Int)))) then
 some (y0.1, y0.2.1, y0.2.2, 0, 0, false, [], false)
 else
 bif (Nat.blt (([] : List Int).length + x1.length) 17592186044416) then
 (some ((([] : List Int) ++ x1) : List Int)).bind fun z5 =>
 bif x5 then
 some (0, [], x2, 7, x4, false, z5, true)
 else
 some (1, y0.2.1, y0.2.2, 7, x4, false, z5, true)
 else none
 else
 some (y0.1, y0.2.1, y0.2.2, 0, 0, false, [], false)
noncomputable def C115 : Con := ⟨[(.B, true, [iI, (.sl R1), .bool]), (.B, true, [iI, iI, .bool, (.sl R1)])], [(true, [iI, (.sl R1), .bool]), (true, [iI, iI, .bool, (.sl R1)]), (false, [.bool])], [iI, (.sl R1), .bool, iI, iI, .bool, (.sl R1)], [iI, (.sl R1), .bool, iI, iI, .bool, (.sl R1), .bool], fun (p : Int × List Int × Bool × Int × Int × Bool × List Int) => f_spec_FrameHear p.1 p.2.1 p.2.2.1 p.2.2.2.1 p.2.2.2.2.1 p.2.2.2.2.2.1 p.2.2.2.2.2.2⟩
noncomputable abbrev K115 : Cons := [(61, C61), (113, C113), (130, C130), (151, C151)]
noncomputable abbrev L115 : List (Nat × Loops) := []
abbrev Q115 : List (Nat × List (Int × Nat) × Nat) := []
noncomputable abbrev X115 : Nat → Ctx := ctxOf tb K115 L115 Q115
theorem E115 : ∀ x, funRun fs X115 6 115 C115 x = C115.fn x := fun x => by kernel_rfl
theorem B115 : ConB Tryz.prog 115 C115 := ConB.make FS MIX TY (cons := K115) (L := L115) (ptrs := Q115) ⟨S61, S113, S130, S151, trivial⟩ trivial trivial rfl rfl E115
theorem S115 : ConS Tryz.prog 115 C115 := B115.call rfl
noncomputable def f_spec_Queue (x0 : Int) (x1 : tyM) (x2 : Int) (x3 : Int) (x4 : Bool) (x5 : List Int) : Option (Int × tyM × Bool) :=
 (f_spec_l2Sender x0 x1).bind fun y0 =>
 (f_spec_SenderOk x0 x1).bind fun y1 =>
 bif (!y1) then
 some (y0.1, y0.2, false)
 else
 (f_spec_MsgOk x2 x3 x4 x5).bind fun y2 =>
 bif (!y2) then
 some (y0.1, y0.2, false)
 else
 bif (decide ((x1.length : Int) = (30 : Int))) then
 some (y0.1, y0.2, false)
 else
 bif (decide ((IntKind.wrap .i64 (x0 + (x1.length : Int))) = (100000 : Int))) then
 some (y0.1, y0.2, false)
 else
 (f_spec_l1Msg x2 x3 x4 x5).bind fun y3 =>
 bif (Nat.blt (y0.2.length + ([(y3.1, y3.2.1, y3.2.2.1, y3.2.2.2)] : tyM).length) 2932031007402) then
 (some ((y0.2 ++ ([(y3.1, y3.2.1, y3.2.2.1, y3.2.2.2)] : tyM)) : tyM)).bind fun z4 =>
 some (y0.1, z4, true)
 else none
noncomputable def C79 : Con := ⟨[(.B, true, [iI, (.sl R6)]), (.B, true, [iI, iI, .bool, (.sl R1)])], [(true, [iI, (.sl R6)]), (false, [.bool])], [iI, (.sl R6), iI, iI, .bool, (.sl R1)], [iI, (.sl R6), .bool], fun (p : Int × tyM × Int × Int × Bool × List Int) => f_spec_Queue p.1 p.2.1 p.2.2.1 p.2.2.2.1 p.2.2.2.2.1 p.2.2.2.2.2⟩
noncomputable abbrev K79 : Cons := [(113, C113), (132, C132), (153, C153), (154, C154)]
noncomputable abbrev L79 : List (Nat × Loops) := []
abbrev Q79 : List (Nat × List (Int × Nat) × Nat) := []
noncomputable abbrev X79 : Nat → Ctx := ctxOf tb K79 L79 Q79
theorem E79 : ∀ x, funRun fs X79 6 79 C79 x = C79.fn x := fun x => by kernel_rfl
theorem B79 : ConB Tryz.prog 79 C79 := ConB.make FS MIX TY (cons := K79) (L := L79) (ptrs := Q79) ⟨S113, S132, S153, S154, trivial⟩ trivial trivial rfl rfl E79
theorem S79 : ConS Tryz.prog 79 C79 := B79.call rfl
noncomputable def f_spec_l5Told.l0 : Nat → tyT → Bool → Int → Int → Int → tyF → tyH → tyS → (List Int) → tyF → tyH → tyS → (List Int) → Option ((Bool × Int × tyF × tyH × tyS × List Int) ⊕ (Bool × Int × Int × tyF × tyH × tyS × List Int × tyF × tyH × tyS × List Int))
 | 0, _, _, _, _, _, _, _, _, _, _, _, _, _ => none
 | n + 1, p0, p1, p2, p3, p4, p5, p6, p7, p8, p9, p10, p11, p12 =>
 bif (decide (p2 < (p0.length : Int))) then
 bif ((decide ((0 : Int) ≤ p2)) && (decide (p2 < (p0.length : Int)))) then
 bif ((decide ((0 : Int) ≤ ((p0.getD p2.toNat (0, 0, 0, false, [])).1))) && (decide (((p0.getD p2.toNat (0, 0, 0, false, [])).1) < (p7.length : Int)))) then
 bif ((decide ((0 : Int) ≤ p2)) && (decide (p2 < (p0.length : Int)))) then
 (f_spec_Queue ((p7.getD ((p0.getD p2.toNat (0, 0, 0, false, [])).1).toNat (0, [])).1) ((p7.getD ((p0.getD p2.toNat (0, 0, 0, false, [])).1).toNat (0, [])).2) ((p0.getD p2.toNat (0, 0, 0, false, [])).2.1) ((p0.getD p2.toNat (0, 0, 0, false, [])).2.2.1) ((p0.getD p2.toNat (0, 0, 0, false, [])).2.2.2.1) ((p0.getD p2.toNat (0, 0, 0, false, [])).2.2.2.2)).bind fun y13 =>
 bif (!y13.2.2) then
 some (.inl (false, p3, p5, p6, p7, p8))
 else
 bif ((decide ((0 : Int) ≤ p2)) && (decide (p2 < (p0.length : Int)))) then
 bif ((decide ((0 : Int) ≤ ((p0.getD p2.toNat (0, 0, 0, false, [])).1))) && (decide (((p0.getD p2.toNat (0, 0, 0, false, [])).1) < (p7.length : Int)))) then
 (some ((p7.set ((p0.getD p2.toNat (0, 0, 0, false, [])).1).toNat (y13.1, y13.2.1)) : tyS)).bind fun z14 =>
 f_spec_l5Told.l0 n p0 p1 (IntKind.wrap .i64 (p2 + (1 : Int))) p3 p4 p5 p6 z14 p8 p9 p10 p11 p12
 else none
 else none
 else none
 else none
 else none
 else
 some (.inr (p1, p3, p4, p5, p6, p7, p8, p9, p10, p11, p12))
noncomputable def f_spec_l5Told (x0 : Int) (x1 : tyF) (x2 : tyH) (x3 : tyS) (x4 : List Int) (x5 : tyT) : Option (Int × tyF × tyH × tyS × List Int × Bool) :=
 (f_spec_l5Told.l0 N x5 false 0 x0 0 x1 x2 x3 x4 ([] : tyF) ([] : tyH) ([] : tyS) ([] : List Int)).bind fun r0 =>
 cs r0 (fun a1 =>
 some (a1.2.1, a1.2.2.1, a1.2.2.2.1, a1.2.2.2.2.1, a1.2.2.2.2.2, a1.1)) (fun b2 =>
 some (b2.2.1, b2.2.2.2.1, b2.2.2.2.2.1, b2.2.2.2.2.2.1, b2.2.2.2.2.2.2.1, true))
noncomputable def C116 : Con := ⟨[(.M, true, [iI, (.sl R4), (.sl R5), (.sl R7), (.sl R1)]), (.B, false, [(.sl R10)])], [(true, [iI, (.sl R4), (.sl R5), (.sl R7), (.sl R1)]), (false, [.bool])], [iI, (.sl R4), (.sl R5), (.sl R7), (.sl R1), (.sl R10)], [iI, (.sl R4), (.sl R5), (.sl R7), (.sl R1), .bool], fun (p : Int × tyF × tyH × tyS × List Int × tyT) => f_spec_l5Told p.1 p.2.1 p.2.2.1 p.2.2.2.1 p.2.2.2.2.1 p.2.2.2.2.2⟩
noncomputable abbrev f_spec_l5Told.l0.u (n : Nat) := fun (p : tyT × Bool × Int × Int × Int × tyF × tyH × tyS × List Int × tyF × tyH × tyS × List Int) => f_spec_l5Told.l0 n p.1 p.2.1 p.2.2.1 p.2.2.2.1 p.2.2.2.2.1 p.2.2.2.2.2.1 p.2.2.2.2.2.2.1 p.2.2.2.2.2.2.2.1 p.2.2.2.2.2.2.2.2.1 p.2.2.2.2.2.2.2.2.2.1 p.2.2.2.2.2.2.2.2.2.2.1 p.2.2.2.2.2.2.2.2.2.2.2.1 p.2.2.2.2.2.2.2.2.2.2.2.2
noncomputable def f_spec_l5Told.l0.c : LoopCon := ⟨1000, 6, [1, 2, 4, 5, 6], ⟨[(1, bN R10), (2, .ptr 1000 0), (4, .ptr 1001 0), (5, .bool false), (6, i0)], [(1000, .box [i0, .ref 1002 [] none, .ref 1003 [] none, .ref 1004 [] none, .ref 1005 [] none]), (1001, .box [i0, .ref 1006 [] none, .ref 1007 [] none, .ref 1008 [] none, .ref 1009 [] none]), (1002, .row R4 []), (1003, .row R5 []), (1004, .row R7 []), (1005, .row R1 []), (1006, .row R4 []), (1007, .row R5 []), (1008, .row R7 []), (1009, .row R1 [])], 1010⟩, [(.sl R10), .bool, iI, iI, iI, (.sl R4), (.sl R5), (.sl R7), (.sl R1), (.sl R4), (.sl R5), (.sl R7), (.sl R1)], [⟨.ret, [4, 5], ⟨[(4, .ptr 1000 0), (5, .bool false)], [(1000, .box [i0, .ref 1001 [] none, .ref 1002 [] none, .ref 1003 [] none, .ref 1004 [] none]), (1001, .row R4 []), (1002, .row R5 []), (1003, .row R7 []), (1004, .row R1 [])], 1005⟩, [.bool, iI, (.sl R4), (.sl R5), (.sl R7), (.sl R1)]⟩, ⟨.exit 0, [2, 4, 5], ⟨[(2, .ptr 1000 0), (4, .ptr 1001 0), (5, .bool false)], [(1000, .box [i0, .ref 1002 [] none, .ref 1003 [] none, .ref 1004 [] none, .ref 1005 [] none]), (1001, .box [i0, .ref 1006 [] none, .ref 1007 [] none, .ref 1008 [] none, .ref 1009 [] none]), (1002, .row R4 []), (1003, .row R5 []), (1004, .row R7 []), (1005, .row R1 []), (1006, .row R4 []), (1007, .row R5 []), (1008, .row R7 []), (1009, .row R1 [])], 1010⟩, [.bool, iI, iI, (.sl R4), (.sl R5), (.sl R7), (.sl R1), (.sl R4), (.sl R5), (.sl R7), (.sl R1)]⟩], f_spec_l5Told.l0.u N⟩
noncomputable abbrev K116 : Cons := [(79, C79)]
noncomputable abbrev L116 : List (Nat × Loops) := [(116, [(2, f_spec_l5Told.l0.c)])]
abbrev Q116 : List (Nat × List (Int × Nat) × Nat) := []
noncomputable abbrev X116 : Nat → Ctx := ctxOf tb K116 L116 Q116
theorem f_spec_l5Told.l0.ok : ∀ n p, f_spec_l5Told.l0.u n p = iterD (roundOf fs X116 6 116 2 false f_spec_l5Told.l0.c) n p :=
 iter_of (l := f_spec_l5Told.l0.u) (fun _ => rfl) (fun n p => by kernel_rfl)
theorem E116 : ∀ x, funG fs X116 6 116 C116 x = C116.fn x := fun x => by kernel_rfl
theorem B116 : ConG Tryz.prog 116 C116 := ConG.make FS MIX TY (cons := K116) (L := L116) (ptrs := Q116) ⟨S79, trivial⟩ trivial ⟨⟨⟨N, fun p => f_spec_l5Told.l0.ok N p⟩, trivial⟩, trivial⟩ rfl (by kernel_rfl) E116
theorem S116 : ConS Tryz.prog 116 C116 := B116.call (by kernel_rfl)
noncomputable def f_spec_NodeHear (x0 : Int) (x1 : tyF) (x2 : tyH) (x3 : tyS) (x4 : List Int) (x5 : Int) (x6 : Int) (x7 : Int) (x8 : Int) (x9 : Bool) (x10 : List Int) : Option (Int × tyF × tyH × tyS × List Int × Bool) :=
 (f_spec_NodeOk x0 x1 x2 x3 x4 x5).bind fun y0 =>
 bif (!y0) then
 (f_spec_l5Copy x0 x1 x2 x3 x4).bind fun y1 =>
 some (y1.1, y1.2.1, y1.2.2.1, y1.2.2.2.1, y1.2.2.2.2, false)
 else
 (f_spec_MsgOk x7 x8 x9 x10).bind fun y2 =>
 bif (!y2) then
 (f_spec_l5Copy x0 x1 x2 x3 x4).bind fun y3 =>
 some (y3.1, y3.2.1, y3.2.2.1, y3.2.2.2.1, y3.2.2.2.2, false)
 else
 (f_spec_l1In x6 0 (IntKind.wrap .i64 (x5 - (1 : Int)))).bind fun y4 =>
 bif (!y4) then
 (f_spec_l5Copy x0 x1 x2 x3 x4).bind fun y5 =>
 some (y5.1, y5.2.1, y5.2.2.1, y5.2.2.2.1, y5.2.2.2.2, false)
 else
 (f_spec_l5Copy x0 x1 x2 x3 x4).bind fun y6 =>
 bif (decide (x5 = (0 : Int))) then none else
 bif (decide (x7 = (1 : Int))) then
 bif (decide ((Int.tmod x8 x5) = x0)) then
 bif ((decide ((0 : Int) ≤ x8)) && (decide (x8 < (x2.length : Int)))) then
 (f_spec_HomeHear ((x2.getD x8.toNat ([], 0, [], false, 0, false, 0, [])).1) ((x2.getD x8.toNat ([], 0, [], false, 0, false, 0, [])).2.1) ((x2.getD x8.toNat ([], 0, [], false, 0, false, 0, [])).2.2.1) ((x2.getD x8.toNat ([], 0, [], false, 0, false, 0, [])).2.2.2.1) ((x2.getD x8.toNat ([], 0, [], false, 0, false, 0, [])).2.2.2.2.1) ((x2.getD x8.toNat ([], 0, [], false, 0, false, 0, [])).2.2.2.2.2.1) ((x2.getD x8.toNat ([], 0, [], false, 0, false, 0, [])).2.2.2.2.2.2.1) ((x2.getD x8.toNat ([], 0, [], false, 0, false, 0, [])).2.2.2.2.2.2.2) x5 x8 x6 x7 x8 x9 x10).bind fun y7 =>
 bif ((decide ((0 : Int) ≤ x8)) && (decide (x8 < (y6.2.2.1.length : Int)))) then
 (some ((y6.2.2.1.set x8.toNat (y7.1, y7.2.1, y7.2.2.1, y7.2.2.2.1, y7.2.2.2.2.1, y7.2.2.2.2.2.1, y7.2.2.2.2.2.2.1, y7.2.2.2.2.2.2.2.1)) : tyH)).bind fun z8 =>
 (f_spec_l5Told y6.1 y6.2.1 z8 y6.2.2.2.1 y6.2.2.2.2 y7.2.2.2.2.2.2.2.2).bind fun y9 =>
 bif (!y9.2.2.2.2.2) then
 (f_spec_l5Copy x0 x1 x2 x3 x4).bind fun y10 =>
 some (y10.1, y10.2.1, y10.2.2.1, y10.2.2.2.1, y10.2.2.2.2, false)
 else
 some (y9.1, y9.2.1, y9.2.2.1, y9.2.2.2.1, y9.2.2.2.2.1, true)
 else none
 else none
 else
 (f_spec_l5Told y6.1 y6.2.1 y6.2.2.1 y6.2.2.2.1 y6.2.2.2.2 ([] : tyT)).bind fun y11 =>
 bif (!y11.2.2.2.2.2) then
 (f_spec_l5Copy x0 x1 x2 x3 x4).bind fun y12 =>
 some (y12.1, y12.2.1, y12.2.2.1, y12.2.2.2.1, y12.2.2.2.2, false)
 else
 some (y11.1, y11.2.1, y11.2.2.1, y11.2.2.2.1, y11.2.2.2.2.1, true)
 else
 bif (decide (x7 = (2 : Int))) then
 bif (decide ((Int.tmod x8 x5) = x0)) then
 bif ((decide ((0 : Int) ≤ x8)) && (decide (x8 < (x2.length : Int)))) then
 (f_spec_HomeHear ((x2.getD x8.toNat ([], 0, [], false, 0, false, 0, [])).1) ((x2.getD x8.toNat ([], 0, [], false, 0, false, 0, [])).2.1) ((x2.getD x8.toNat ([], 0, [], false, 0, false, 0, [])).2.2.1) ((x2.getD x8.toNat ([], 0, [], false, 0, false, 0, [])).2.2.2.1) ((x2.getD x8.toNat ([], 0, [], false, 0, false, 0, [])).2.2.2.2.1) ((x2.getD x8.toNat ([], 0, [], false, 0, false, 0, [])).2.2.2.2.2.1) ((x2.getD x8.toNat ([], 0, [], false, 0, false, 0, [])).2.2.2.2.2.2.1) ((x2.getD x8.toNat ([], 0, [], false, 0, false, 0, [])).2.2.2.2.2.2.2) x5 x8 x6 x7 x8 x9 x10).bind fun y13 =>
 bif ((decide ((0 : Int) ≤ x8)) && (decide (x8 < (y6.2.2.1.length : Int)))) then
 (some ((y6.2.2.1.set x8.toNat (y13.1, y13.2.1, y13.2.2.1, y13.2.2.2.1, y13.2.2.2.2.1, y13.2.2.2.2.2.1, y13.2.2.2.2.2.2.1, y13.2.2.2.2.2.2.2.1)) : tyH)).bind fun z14 =>
 (f_spec_l5Told y6.1 y6.2.1 z14 y6.2.2.2.1 y6.2.2.2.2 y13.2.2.2.2.2.2.2.2).bind fun y15 =>
 bif (!y15.2.2.2.2.2) then
 (f_spec_l5Copy x0 x1 x2 x3 x4).bind fun y16 =>
 some (y16.1, y16.2.1, y16.2.2.1, y16.2.2.2.1, y16.2.2.2.2, false)
 else
 some (y15.1, y15.2.1, y15.2.2.1, y15.2.2.2.1, y15.2.2.2.2.1, true)
 else none
 else none
 else
 (f_spec_l5Told y6.1 y6.2.1 y6.2.2.1 y6.2.2.2.1 y6.2.2.2.2 ([] : tyT)).bind fun y17 =>
 bif (!y17.2.2.2.2.2) then
 (f_spec_l5Copy x0 x1 x2 x3 x4).bind fun y18 =>
 some (y18.1, y18.2.1, y18.2.2.1, y18.2.2.2.1, y18.2.2.2.2, false)
 else
 some (y17.1, y17.2.1, y17.2.2.1, y17.2.2.2.1, y17.2.2.2.2.1, true)
 else
 bif (decide (x7 = (5 : Int))) then
 bif (decide ((Int.tmod x8 x5) = x0)) then
 bif ((decide ((0 : Int) ≤ x8)) && (decide (x8 < (x2.length : Int)))) then
 (f_spec_HomeHear ((x2.getD x8.toNat ([], 0, [], false, 0, false, 0, [])).1) ((x2.getD x8.toNat ([], 0, [], false, 0, false, 0, [])).2.1) ((x2.getD x8.toNat ([], 0, [], false, 0, false, 0, [])).2.2.1) ((x2.getD x8.toNat ([], 0, [], false, 0, false, 0, [])).2.2.2.1) ((x2.getD x8.toNat ([], 0, [], false, 0, false, 0, [])).2.2.2.2.1) ((x2.getD x8.toNat ([], 0, [], false, 0, false, 0, [])).2.2.2.2.2.1) ((x2.getD x8.toNat ([], 0, [], false, 0, false, 0, [])).2.2.2.2.2.2.1) ((x2.getD x8.toNat ([], 0, [], false, 0, false, 0, [])).2.2.2.2.2.2.2) x5 x8 x6 x7 x8 x9 x10).bind fun y19 =>
 bif ((decide ((0 : Int) ≤ x8)) && (decide (x8 < (y6.2.2.1.length : Int)))) then
 (some ((y6.2.2.1.set x8.toNat (y19.1, y19.2.1, y19.2.2.1, y19.2.2.2.1, y19.2.2.2.2.1, y19.2.2.2.2.2.1, y19.2.2.2.2.2.2.1, y19.2.2.2.2.2.2.2.1)) : tyH)).bind fun z20 =>
 (f_spec_l5Told y6.1 y6.2.1 z20 y6.2.2.2.1 y6.2.2.2.2 y19.2.2.2.2.2.2.2.2).bind fun y21 =>
 bif (!y21.2.2.2.2.2) then
 (f_spec_l5Copy x0 x1 x2 x3 x4).bind fun y22 =>
 some (y22.1, y22.2.1, y22.2.2.1, y22.2.2.2.1, y22.2.2.2.2, false)
 else
 some (y21.1, y21.2.1, y21.2.2.1, y21.2.2.2.1, y21.2.2.2.2.1, true)
 else none
 else none
 else
 (f_spec_l5Told y6.1 y6.2.1 y6.2.2.1 y6.2.2.2.1 y6.2.2.2.2 ([] : tyT)).bind fun y23 =>
 bif (!y23.2.2.2.2.2) then
 (f_spec_l5Copy x0 x1 x2 x3 x4).bind fun y24 =>
 some (y24.1, y24.2.1, y24.2.2.1, y24.2.2.2.1, y24.2.2.2.2, false)
 else
 some (y23.1, y23.2.1, y23.2.2.1, y23.2.2.2.1, y23.2.2.2.2.1, true)
 else
 bif (decide (x7 = (7 : Int))) then
 bif (decide ((Int.tmod x8 x5) = x0)) then
 bif ((decide ((0 : Int) ≤ x8)) && (decide (x8 < (x2.length : Int)))) then
 (f_spec_HomeHear ((x2.getD x8.toNat ([], 0, [], false, 0, false, 0, [])).1) ((x2.getD x8.toNat ([], 0, [], false, 0, false, 0, [])).2.1) ((x2.getD x8.toNat ([], 0, [], false, 0, false, 0, [])).2.2.1) ((x2.getD x8.toNat ([], 0, [], false, 0, false, 0, [])).2.2.2.1) ((x2.getD x8.toNat ([], 0, [], false, 0, false, 0, [])).2.2.2.2.1) ((x2.getD x8.toNat ([], 0, [], false, 0, false, 0, [])).2.2.2.2.2.1) ((x2.getD x8.toNat ([], 0, [], false, 0, false, 0, [])).2.2.2.2.2.2.1) ((x2.getD x8.toNat ([], 0, [], false, 0, false, 0, [])).2.2.2.2.2.2.2) x5 x8 x6 x7 x8 x9 x10).bind fun y25 =>
 bif ((decide ((0 : Int) ≤ x8)) && (decide (x8 < (y6.2.2.1.length : Int)))) then
 (some ((y6.2.2.1.set x8.toNat (y25.1, y25.2.1, y25.2.2.1, y25.2.2.2.1, y25.2.2.2.2.1, y25.2.2.2.2.2.1, y25.2.2.2.2.2.2.1, y25.2.2.2.2.2.2.2.1)) : tyH)).bind fun z26 =>
 (f_spec_l5Told y6.1 y6.2.1 z26 y6.2.2.2.1 y6.2.2.2.2 y25.2.2.2.2.2.2.2.2).bind fun y27 =>
 bif (!y27.2.2.2.2.2) then
 (f_spec_l5Copy x0 x1 x2 x3 x4).bind fun y28 =>
 some (y28.1, y28.2.1, y28.2.2.1, y28.2.2.2.1, y28.2.2.2.2, false)
 else
 some (y27.1, y27.2.1, y27.2.2.1, y27.2.2.2.1, y27.2.2.2.2.1, true)
 else none
 else none
 else
 (f_spec_l5Told y6.1 y6.2.1 y6.2.2.1 y6.2.2.2.1 y6.2.2.2.2 ([] : tyT)).bind fun y29 =>
 bif (!y29.2.2.2.2.2) then
 (f_spec_l5Copy x0 x1 x2 x3 x4).bind fun y30 =>
 some (y30.1, y30.2.1, y30.2.2.1, y30.2.2.2.1, y30.2.2.2.2, false)
 else
 some (y29.1, y29.2.1, y29.2.2.1, y29.2.2.2.1, y29.2.2.2.2.1, true)
 else
 bif (decide (x6 = (Int.tmod x8 x5))) then
 bif ((decide ((0 : Int) ≤ x8)) && (decide (x8 < (x1.length : Int)))) then
 (f_spec_FrameHear ((x1.getD x8.toNat (0, [], false)).1) ((x1.getD x8.toNat (0, [], false)).2.1) ((x1.getD x8.toNat (0, [], false)).2.2) x7 x8 x9 x10).bind fun y31 =>
 bif ((decide ((0 : Int) ≤ x8)) && (decide (x8 < (y6.2.1.length : Int)))) then
 (some ((y6.2.1.set x8.toNat (y31.1, y31.2.1, y31.2.2.1)) : tyF)).bind fun z32 =>
 bif y31.2.2.2.2.2.2.2 then
 (f_spec_l5Told y6.1 z32 y6.2.2.1 y6.2.2.2.1 y6.2.2.2.2 ([((Int.tmod x8 x5), y31.2.2.2.1, y31.2.2.2.2.1, y31.2.2.2.2.2.1, y31.2.2.2.2.2.2.1)] : tyT)).bind fun y33 =>
 bif (!y33.2.2.2.2.2) then
 (f_spec_l5Copy x0 x1 x2 x3 x4).bind fun y34 =>
 some (y34.1, y34.2.1, y34.2.2.1, y34.2.2.2.1, y34.2.2.2.2, false)
 else
 some (y33.1, y33.2.1, y33.2.2.1, y33.2.2.2.1, y33.2.2.2.2.1, true)
 else
 (f_spec_l5Told y6.1 z32 y6.2.2.1 y6.2.2.2.1 y6.2.2.2.2 ([] : tyT)).bind fun y35 =>
 bif (!y35.2.2.2.2.2) then
 (f_spec_l5Copy x0 x1 x2 x3 x4).bind fun y36 =>
 some (y36.1, y36.2.1, y36.2.2.1, y36.2.2.2.1, y36.2.2.2.2, false)
 else
 some (y35.1, y35.2.1, y35.2.2.1, y35.2.2.2.1, y35.2.2.2.2.1, true)
 else none
 else none
 else
 (f_spec_l5Told y6.1 y6.2.1 y6.2.2.1 y6.2.2.2.1 y6.2.2.2.2 ([] : tyT)).bind fun y37 =>
 bif (!y37.2.2.2.2.2) then
 (f_spec_l5Copy x0 x1 x2 x3 x4).bind fun y38 =>
 some (y38.1, y38.2.1, y38.2.2.1, y38.2.2.2.1, y38.2.2.2.2, false)
 else
 some (y37.1, y37.2.1, y37.2.2.1, y37.2.2.2.1, y37.2.2.2.2.1, true)
noncomputable def C44 : Con := ⟨[(.B, true, [iI, (.sl R4), (.sl R5), (.sl R7), (.sl R1)]), (.B, false, [iI]), (.B, false, [iI]), (.B, true, [iI, iI, .bool, (.sl R1)])], [(true, [iI, (.sl R4), (.sl R5), (.sl R7), (.sl R1)]), (false, [.bool])], [iI, (.sl R4), (.sl R5), (.sl R7), (.sl R1), iI, iI, iI, iI, .bool, (.sl R1)], [iI, (.sl R4), (.sl R5), (.sl R7), (.sl R1), .bool], fun (p : Int × tyF × tyH × tyS × List Int × Int × Int × Int × Int × Bool × List Int) => f_spec_NodeHear p.1 p.2.1 p.2.2.1 p.2.2.2.1 p.2.2.2.2.1 p.2.2.2.2.2.1 p.2.2.2.2.2.2.1 p.2.2.2.2.2.2.2.1 p.2.2.2.2.2.2.2.2.1 p.2.2.2.2.2.2.2.2.2.1 p.2.2.2.2.2.2.2.2.2.2⟩
noncomputable abbrev K44 : Cons := [(48, C48), (60, C60), (77, C77), (113, C113), (114, C114), (115, C115), (116, C116)]
noncomputable abbrev L44 : List (Nat × Loops) := []
abbrev Q44 : List (Nat × List (Int × Nat) × Nat) := []
noncomputable abbrev X44 : Nat → Ctx := ctxOf tb K44 L44 Q44
theorem E44 : ∀ x, funRun fs X44 6 44 C44 x = C44.fn x := fun x => by kernel_rfl
theorem B44 : ConB Tryz.prog 44 C44 := ConB.make FS MIX TY (cons := K44) (L := L44) (ptrs := Q44) ⟨S48, S60, S77, S113, S114, S115, S116, trivial⟩ trivial trivial rfl rfl E44
theorem S44 : ConS Tryz.prog 44 C44 := B44.call rfl
noncomputable def f_spec_l6Give (x0 : Int) (x1 : tyN) (x2 : tyP) (x3 : Int) (x4 : Int) (x5 : Bool) (x6 : Int) (x7 : Int) (x8 : Int) (x9 : Bool) (x10 : List Int) : Option (Int × tyN × tyP) :=
 bif ((decide ((0 : Int) ≤ x4)) && (decide (x4 < (x1.length : Int)))) then
 bif x5 then
 bif ((decide ((0 : Int) ≤ x3)) && (decide (x3 < (((x1.getD x4.toNat (0, [], [], [], [])).2.2.2.1).length : Int)))) then
 (f_spec_Acked ((((x1.getD x4.toNat (0, [], [], [], [])).2.2.2.1).getD x3.toNat (0, [])).1) ((((x1.getD x4.toNat (0, [], [], [], [])).2.2.2.1).getD x3.toNat (0, [])).2) x6).bind fun y0 =>
 bif ((decide ((0 : Int) ≤ x3)) && (decide (x3 < (((x1.getD x4.toNat (0, [], [], [], [])).2.2.2.1).length : Int)))) then
 (some ((x1.set x4.toNat ((x1.getD x4.toNat (0, [], [], [], [])).1, (x1.getD x4.toNat (0, [], [], [], [])).2.1, (x1.getD x4.toNat (0, [], [], [], [])).2.2.1, (((x1.getD x4.toNat (0, [], [], [], [])).2.2.2.1).set x3.toNat (y0.1, y0.2)), (x1.getD x4.toNat (0, [], [], [], [])).2.2.2.2)) : tyN)).bind fun z1 =>
 bif ((decide ((0 : Int) ≤ x4)) && (decide (x4 < (z1.length : Int)))) then
 bif (decide (x4 = x4)) then
 bif (decide (x4 = x4)) then
 bif (decide (x4 = x4)) then
 bif (decide (x4 = x4)) then
 (some ((z1.set x4.toNat ((x1.getD x4.toNat (0, [], [], [], [])).1, (z1.getD x4.toNat (0, [], [], [], [])).2.1, (z1.getD x4.toNat (0, [], [], [], [])).2.2.1, (z1.getD x4.toNat (0, [], [], [], [])).2.2.2.1, (z1.getD x4.toNat (0, [], [], [], [])).2.2.2.2)) : tyN)).bind fun z2 =>
 some (x0, z2, x2)
 else none
 else none
 else none
 else none
 else none
 else none
 else none
 else
 bif ((decide ((0 : Int) ≤ x3)) && (decide (x3 < (((x1.getD x4.toNat (0, [], [], [], [])).2.2.2.2).length : Int)))) then
 (f_spec_Arrived (((x1.getD x4.toNat (0, [], [], [], [])).2.2.2.2).getD x3.toNat 0) x6).bind fun y3 =>
 bif (!y3.2) then
 some (x0, x1, x2)
 else
 (f_spec_NodeHear ((x1.getD x4.toNat (0, [], [], [], [])).1) ((x1.getD x4.toNat (0, [], [], [], [])).2.1) ((x1.getD x4.toNat (0, [], [], [], [])).2.2.1) ((x1.getD x4.toNat (0, [], [], [], [])).2.2.2.1) ((x1.getD x4.toNat (0, [], [], [], [])).2.2.2.2) x0 x3 x7 x8 x9 x10).bind fun y4 =>
 bif y4.2.2.2.2.2 then
 bif ((decide ((0 : Int) ≤ x3)) && (decide (x3 < (y4.2.2.2.2.1.length : Int)))) then
 (some ((y4.2.2.2.2.1.set x3.toNat y3.1) : List Int)).bind fun z5 =>
 bif ((decide ((0 : Int) ≤ x4)) && (decide (x4 < (x1.length : Int)))) then
 (some ((x1.set x4.toNat (y4.1, y4.2.1, y4.2.2.1, y4.2.2.2.1, z5)) : tyN)).bind fun z6 =>
 some (x0, z6, x2)
 else none
 else none
 else
 some (x0, x1, x2)
 else none
 else none
noncomputable def C229 : Con := ⟨[(.M, true, [iI, (.sl R8), (.sl R9)]), (.B, true, [iI, iI, .bool, iI, iI, iI, .bool, (.sl R1)])], [(true, [iI, (.sl R8), (.sl R9)])], [iI, (.sl R8), (.sl R9), iI, iI, .bool, iI, iI, iI, .bool, (.sl R1)], [iI, (.sl R8), (.sl R9)], fun (p : Int × tyN × tyP × Int × Int × Bool × Int × Int × Int × Bool × List Int) => f_spec_l6Give p.1 p.2.1 p.2.2.1 p.2.2.2.1 p.2.2.2.2.1 p.2.2.2.2.2.1 p.2.2.2.2.2.2.1 p.2.2.2.2.2.2.2.1 p.2.2.2.2.2.2.2.2.1 p.2.2.2.2.2.2.2.2.2.1 p.2.2.2.2.2.2.2.2.2.2⟩
noncomputable abbrev K229 : Cons := [(44, C44), (231, C231), (232, C232)]
noncomputable abbrev L229 : List (Nat × Loops) := []
abbrev Q229 : List (Nat × List (Int × Nat) × Nat) := []
noncomputable abbrev X229 : Nat → Ctx := ctxOf tb K229 L229 Q229
theorem E229 : ∀ x, funG fs X229 6 229 C229 x = C229.fn x := fun x => by kernel_rfl
theorem B229 : ConG Tryz.prog 229 C229 := ConG.make FS MIX TY (cons := K229) (L := L229) (ptrs := Q229) ⟨S44, S231, S232, trivial⟩ trivial trivial rfl (by kernel_rfl) E229
theorem S229 : ConS Tryz.prog 229 C229 := B229.call (by kernel_rfl)
noncomputable def f_spec_l6Net (x0 : Int) (x1 : tyN) (x2 : tyP) (x3 : Int) (x4 : Int) (x5 : Int) (x6 : Int) : Option (Int × tyN × tyP × Int) :=
 (f_spec_l1In x4 0 (IntKind.wrap .i64 ((x2.length : Int) - (1 : Int)))).bind fun y0 =>
 bif (!y0) then
 some (x0, x1, x2, 2)
 else
 bif ((decide ((0 : Int) ≤ x4)) && (decide (x4 < (x2.length : Int)))) then
 bif (decide (x3 = (5 : Int))) then
 bif (decide ((x2.length : Int) = (40 : Int))) then
 some (x0, x1, x2, 4)
 else
 (f_spec_l6Packet ((x2.getD x4.toNat (0, 0, false, 0, 0, 0, false, [])).1) ((x2.getD x4.toNat (0, 0, false, 0, 0, 0, false, [])).2.1) ((x2.getD x4.toNat (0, 0, false, 0, 0, 0, false, [])).2.2.1) ((x2.getD x4.toNat (0, 0, false, 0, 0, 0, false, [])).2.2.2.1) ((x2.getD x4.toNat (0, 0, false, 0, 0, 0, false, [])).2.2.2.2.1) ((x2.getD x4.toNat (0, 0, false, 0, 0, 0, false, [])).2.2.2.2.2.1) ((x2.getD x4.toNat (0, 0, false, 0, 0, 0, false, [])).2.2.2.2.2.2.1) ((x2.getD x4.toNat (0, 0, false, 0, 0, 0, false, [])).2.2.2.2.2.2.2)).bind fun y1 =>
 bif (Nat.blt (x2.length + ([(y1.1, y1.2.1, y1.2.2.1, y1.2.2.2.1, y1.2.2.2.2.1, y1.2.2.2.2.2.1, y1.2.2.2.2.2.2.1, y1.2.2.2.2.2.2.2)] : tyP).length) 1759218604441) then
 (some ((x2 ++ ([(y1.1, y1.2.1, y1.2.2.1, y1.2.2.2.1, y1.2.2.2.2.1, y1.2.2.2.2.2.1, y1.2.2.2.2.2.2.1, y1.2.2.2.2.2.2.2)] : tyP)) : tyP)).bind fun z2 =>
 some (x0, x1, z2, 0)
 else none
 else
 bif ((decide ((0 : Int) ≤ x4)) && (decide (x4 ≤ (x2.length : Int)))) then
 bif (Nat.blt (([] : tyP).length + ((x2.drop 0).take x4.toNat).length) 1759218604441) then
 (some ((([] : tyP) ++ ((x2.drop 0).take x4.toNat)) : tyP)).bind fun z3 =>
 bif ((decide ((0 : Int) ≤ (IntKind.wrap .i64 (x4 + (1 : Int))))) && (decide ((IntKind.wrap .i64 (x4 + (1 : Int))) ≤ (x2.length : Int)))) then
 bif ((decide (((0 : Int) + x4) ≤ (IntKind.wrap .i64 (x4 + (1 : Int))))) && (decide (((IntKind.wrap .i64 (x4 + (1 : Int))) + ((x2.length : Int) - (IntKind.wrap .i64 (x4 + (1 : Int))))) ≤ (x2.length : Int)))) then
 bif (Nat.blt (z3.length + ((x2.drop (IntKind.wrap .i64 (x4 + (1 : Int))).toNat).take ((x2.length : Int) - (IntKind.wrap .i64 (x4 + (1 : Int)))).toNat).length) 1759218604441) then
 (some ((z3 ++ ((x2.drop (IntKind.wrap .i64 (x4 + (1 : Int))).toNat).take ((x2.length : Int) - (IntKind.wrap .i64 (x4 + (1 : Int)))).toNat)) : tyP)).bind fun z4 =>
 bif (decide (x3 = (4 : Int))) then
 some (x0, x1, z4, 0)
 else
 bif ((decide (((0 : Int) + x4) ≤ x4)) && (decide (x4 < (IntKind.wrap .i64 (x4 + (1 : Int)))))) then
 (f_spec_l6Give x0 x1 z4 ((x2.getD x4.toNat (0, 0, false, 0, 0, 0, false, [])).1) ((x2.getD x4.toNat (0, 0, false, 0, 0, 0, false, [])).2.1) ((x2.getD x4.toNat (0, 0, false, 0, 0, 0, false, [])).2.2.1) ((x2.getD x4.toNat (0, 0, false, 0, 0, 0, false, [])).2.2.2.1) ((x2.getD x4.toNat (0, 0, false, 0, 0, 0, false, [])).2.2.2.2.1) ((x2.getD x4.toNat (0, 0, false, 0, 0, 0, false, [])).2.2.2.2.2.1) ((x2.getD x4.toNat (0, 0, false, 0, 0, 0, false, [])).2.2.2.2.2.2.1) ((x2.getD x4.toNat (0, 0, false, 0, 0, 0, false, [])).2.2.2.2.2.2.2)).bind fun y5 =>
 some (y5.1, y5.2.1, y5.2.2, 0)
 else none
 else none
 else none
 else none
 else none
 else none
 else none
noncomputable def C226 : Con := ⟨[(.M, true, [iI, (.sl R8), (.sl R9)]), (.B, true, [iI, iI, iI, iI])], [(true, [iI, (.sl R8), (.sl R9)]), (false, [iI])], [iI, (.sl R8), (.sl R9), iI, iI, iI, iI], [iI, (.sl R8), (.sl R9), iI], fun (p : Int × tyN × tyP × Int × Int × Int × Int) => f_spec_l6Net p.1 p.2.1 p.2.2.1 p.2.2.2.1 p.2.2.2.2.1 p.2.2.2.2.2.1 p.2.2.2.2.2.2⟩
noncomputable abbrev K226 : Cons := [(60, C60), (228, C228), (229, C229)]
noncomputable abbrev L226 : List (Nat × Loops) := []
abbrev Q226 : List (Nat × List (Int × Nat) × Nat) := []
noncomputable abbrev X226 : Nat → Ctx := ctxOf tb K226 L226 Q226
theorem E226 : ∀ x, funG fs X226 6 226 C226 x = C226.fn x := fun x => by kernel_rfl
theorem B226 : ConG Tryz.prog 226 C226 := ConG.make FS MIX TY (cons := K226) (L := L226) (ptrs := Q226) ⟨S60, S228, S229, trivial⟩ trivial trivial rfl (by kernel_rfl) E226
theorem S226 : ConS Tryz.prog 226 C226 := B226.call (by kernel_rfl)
noncomputable def f_spec_l6Put (x0 : Int) (x1 : tyN) (x2 : tyP) (x3 : Int) (x4 : Int) (x5 : Bool) (x6 : Int) (x7 : Int) (x8 : Int) (x9 : Bool) (x10 : List Int) : Option (Int × tyN × tyP × Int) :=
 bif (decide ((x2.length : Int) = (40 : Int))) then
 some (x0, x1, x2, 4)
 else
 bif (Nat.blt (x2.length + ([(x3, x4, x5, x6, x7, x8, x9, x10)] : tyP).length) 1759218604441) then
 (some ((x2 ++ ([(x3, x4, x5, x6, x7, x8, x9, x10)] : tyP)) : tyP)).bind fun z0 =>
 some (x0, x1, z0, 0)
 else none
noncomputable def C230 : Con := ⟨[(.M, true, [iI, (.sl R8), (.sl R9)]), (.M, true, [iI, iI, .bool, iI, iI, iI, .bool, (.sl R1)])], [(true, [iI, (.sl R8), (.sl R9)]), (false, [iI])], [iI, (.sl R8), (.sl R9), iI, iI, .bool, iI, iI, iI, .bool, (.sl R1)], [iI, (.sl R8), (.sl R9), iI], fun (p : Int × tyN × tyP × Int × Int × Bool × Int × Int × Int × Bool × List Int) => f_spec_l6Put p.1 p.2.1 p.2.2.1 p.2.2.2.1 p.2.2.2.2.1 p.2.2.2.2.2.1 p.2.2.2.2.2.2.1 p.2.2.2.2.2.2.2.1 p.2.2.2.2.2.2.2.2.1 p.2.2.2.2.2.2.2.2.2.1 p.2.2.2.2.2.2.2.2.2.2⟩
noncomputable abbrev K230 : Cons := []
noncomputable abbrev L230 : List (Nat × Loops) := []
abbrev Q230 : List (Nat × List (Int × Nat) × Nat) := []
noncomputable abbrev X230 : Nat → Ctx := ctxOf tb K230 L230 Q230
theorem E230 : ∀ x, funG fs X230 6 230 C230 x = C230.fn x := fun x => by kernel_rfl
theorem B230 : ConG Tryz.prog 230 C230 := ConG.make FS MIX TY (cons := K230) (L := L230) (ptrs := Q230) trivial trivial trivial rfl (by kernel_rfl) E230
theorem S230 : ConS Tryz.prog 230 C230 := B230.call (by kernel_rfl)
noncomputable def f_spec_l6Line (x0 : Int) (x1 : tyN) (x2 : tyP) (x3 : Int) (x4 : Int) (x5 : Int) (x6 : Int) : Option (Int × tyN × tyP × Int) :=
 (f_spec_l1In x5 0 (IntKind.wrap .i64 (x0 - (1 : Int)))).bind fun y0 =>
 bif (!y0) then
 some (x0, x1, x2, 2)
 else
 bif ((decide ((0 : Int) ≤ x4)) && (decide (x4 < (x1.length : Int)))) then
 bif ((decide ((0 : Int) ≤ x5)) && (decide (x5 < (((x1.getD x4.toNat (0, [], [], [], [])).2.2.2.2).length : Int)))) then
 bif (decide (x3 = (1 : Int))) then
 bif ((decide ((0 : Int) ≤ x5)) && (decide (x5 < (((x1.getD x4.toNat (0, [], [], [], [])).2.2.2.1).length : Int)))) then
 (f_spec_l1In x6 0 (IntKind.wrap .i64 ((((((x1.getD x4.toNat (0, [], [], [], [])).2.2.2.1).getD x5.toNat (0, [])).2).length : Int) - (1 : Int)))).bind fun y1 =>
 bif (!y1) then
 some (x0, x1, x2, 3)
 else
 bif ((decide ((0 : Int) ≤ x6)) && (decide (x6 < (((((x1.getD x4.toNat (0, [], [], [], [])).2.2.2.1).getD x5.toNat (0, [])).2).length : Int)))) then
 (f_spec_l1Msg ((((((x1.getD x4.toNat (0, [], [], [], [])).2.2.2.1).getD x5.toNat (0, [])).2).getD x6.toNat (0, 0, false, [])).1) ((((((x1.getD x4.toNat (0, [], [], [], [])).2.2.2.1).getD x5.toNat (0, [])).2).getD x6.toNat (0, 0, false, [])).2.1) ((((((x1.getD x4.toNat (0, [], [], [], [])).2.2.2.1).getD x5.toNat (0, [])).2).getD x6.toNat (0, 0, false, [])).2.2.1) ((((((x1.getD x4.toNat (0, [], [], [], [])).2.2.2.1).getD x5.toNat (0, [])).2).getD x6.toNat (0, 0, false, [])).2.2.2)).bind fun y2 =>
 (f_spec_l6Put x0 x1 x2 x4 x5 false (IntKind.wrap .i64 (((((x1.getD x4.toNat (0, [], [], [], [])).2.2.2.1).getD x5.toNat (0, [])).1) + x6)) y2.1 y2.2.1 y2.2.2.1 y2.2.2.2).bind fun y3 =>
 some (y3.1, y3.2.1, y3.2.2.1, y3.2.2.2)
 else none
 else none
 else
 (f_spec_l6Put x0 x1 x2 x4 x5 true (((x1.getD x4.toNat (0, [], [], [], [])).2.2.2.2).getD x5.toNat 0) 0 0 false []).bind fun y4 =>
 some (y4.1, y4.2.1, y4.2.2.1, y4.2.2.2)
 else none
 else none
noncomputable def C227 : Con := ⟨[(.M, true, [iI, (.sl R8), (.sl R9)]), (.B, true, [iI, iI, iI, iI])], [(true, [iI, (.sl R8), (.sl R9)]), (false, [iI])], [iI, (.sl R8), (.sl R9), iI, iI, iI, iI], [iI, (.sl R8), (.sl R9), iI], fun (p : Int × tyN × tyP × Int × Int × Int × Int) => f_spec_l6Line p.1 p.2.1 p.2.2.1 p.2.2.2.1 p.2.2.2.2.1 p.2.2.2.2.2.1 p.2.2.2.2.2.2⟩
noncomputable abbrev K227 : Cons := [(60, C60), (154, C154), (230, C230)]
noncomputable abbrev L227 : List (Nat × Loops) := []
abbrev Q227 : List (Nat × List (Int × Nat) × Nat) := []
noncomputable abbrev X227 : Nat → Ctx := ctxOf tb K227 L227 Q227
theorem E227 : ∀ x, funG fs X227 6 227 C227 x = C227.fn x := fun x => by kernel_rfl
theorem B227 : ConG Tryz.prog 227 C227 := ConG.make FS MIX TY (cons := K227) (L := L227) (ptrs := Q227) ⟨S60, S154, S230, trivial⟩ trivial trivial rfl (by kernel_rfl) E227
theorem S227 : ConS Tryz.prog 227 C227 := B227.call (by kernel_rfl)
noncomputable def f_spec_l5Less (x0 : Int) (x1 : List Int) (x2 : Bool) (x3 : Bool) : Option (Bool) :=
 bif (decide (x0 = (0 : Int))) then
 some true
 else
 bif x3 then
 some (decide (x0 = (1 : Int)))
 else
 some false
noncomputable def C78 : Con := ⟨[(.B, true, [iI, (.sl R1), .bool]), (.B, false, [.bool])], [(false, [.bool])], [iI, (.sl R1), .bool, .bool], [.bool], fun (p : Int × List Int × Bool × Bool) => f_spec_l5Less p.1 p.2.1 p.2.2.1 p.2.2.2⟩
noncomputable abbrev K78 : Cons := []
noncomputable abbrev L78 : List (Nat × Loops) := []
abbrev Q78 : List (Nat × List (Int × Nat) × Nat) := []
noncomputable abbrev X78 : Nat → Ctx := ctxOf tb K78 L78 Q78
theorem E78 : ∀ x, funRun fs X78 6 78 C78 x = C78.fn x := fun x => by kernel_rfl
theorem B78 : ConB Tryz.prog 78 C78 := ConB.make FS MIX TY (cons := K78) (L := L78) (ptrs := Q78) trivial trivial trivial rfl rfl E78
theorem S78 : ConS Tryz.prog 78 C78 := B78.call rfl
noncomputable def f_spec_Want (x0 : Int) (x1 : tyF) (x2 : tyH) (x3 : tyS) (x4 : List Int) (x5 : Int) (x6 : Int) (x7 : Bool) : Option (Int × tyF × tyH × tyS × List Int × Bool) :=
 (f_spec_l5Copy x0 x1 x2 x3 x4).bind fun y0 =>
 (f_spec_NodeOk x0 x1 x2 x3 x4 x5).bind fun y1 =>
 bif (!y1) then
 some (y0.1, y0.2.1, y0.2.2.1, y0.2.2.2.1, y0.2.2.2.2, false)
 else
 (f_spec_l1In x6 0 5).bind fun y2 =>
 bif (!y2) then
 some (y0.1, y0.2.1, y0.2.2.1, y0.2.2.2.1, y0.2.2.2.2, false)
 else
 bif ((decide ((0 : Int) ≤ x6)) && (decide (x6 < (x1.length : Int)))) then
 bif (x1.getD x6.toNat (0, [], false)).2.2 then
 some (y0.1, y0.2.1, y0.2.2.1, y0.2.2.2.1, y0.2.2.2.2, false)
 else
 bif ((decide ((0 : Int) ≤ x6)) && (decide (x6 < (x1.length : Int)))) then
 (f_spec_l5Less ((x1.getD x6.toNat (0, [], false)).1) ((x1.getD x6.toNat (0, [], false)).2.1) ((x1.getD x6.toNat (0, [], false)).2.2) x7).bind fun y3 =>
 bif (!y3) then
 some (y0.1, y0.2.1, y0.2.2.1, y0.2.2.2.1, y0.2.2.2.2, false)
 else
 bif x7 then
 bif (decide (x5 = (0 : Int))) then none else
 bif ((decide ((0 : Int) ≤ (Int.tmod x6 x5))) && (decide ((Int.tmod x6 x5) < (x3.length : Int)))) then
 (f_spec_Queue ((x3.getD (Int.tmod x6 x5).toNat (0, [])).1) ((x3.getD (Int.tmod x6 x5).toNat (0, [])).2) 2 x6 false []).bind fun y4 =>
 bif (!y4.2.2) then
 some (y0.1, y0.2.1, y0.2.2.1, y0.2.2.2.1, y0.2.2.2.2, false)
 else
 bif (decide (x5 = (0 : Int))) then none else
 bif ((decide ((0 : Int) ≤ (Int.tmod x6 x5))) && (decide ((Int.tmod x6 x5) < (y0.2.2.2.1.length : Int)))) then
 (some ((y0.2.2.2.1.set (Int.tmod x6 x5).toNat (y4.1, y4.2.1)) : tyS)).bind fun z5 =>
 bif ((decide ((0 : Int) ≤ x6)) && (decide (x6 < (y0.2.1.length : Int)))) then
 (some ((y0.2.1.set x6.toNat ((y0.2.1.getD x6.toNat (0, [], false)).1, (y0.2.1.getD x6.toNat (0, [], false)).2.1, true)) : tyF)).bind fun z6 =>
 some (y0.1, z6, y0.2.2.1, z5, y0.2.2.2.2, true)
 else none
 else none
 else none
 else
 bif (decide (x5 = (0 : Int))) then none else
 bif ((decide ((0 : Int) ≤ (Int.tmod x6 x5))) && (decide ((Int.tmod x6 x5) < (x3.length : Int)))) then
 (f_spec_Queue ((x3.getD (Int.tmod x6 x5).toNat (0, [])).1) ((x3.getD (Int.tmod x6 x5).toNat (0, [])).2) 1 x6 false []).bind fun y7 =>
 bif (!y7.2.2) then
 some (y0.1, y0.2.1, y0.2.2.1, y0.2.2.2.1, y0.2.2.2.2, false)
 else
 bif (decide (x5 = (0 : Int))) then none else
 bif ((decide ((0 : Int) ≤ (Int.tmod x6 x5))) && (decide ((Int.tmod x6 x5) < (y0.2.2.2.1.length : Int)))) then
 (some ((y0.2.2.2.1.set (Int.tmod x6 x5).toNat (y7.1, y7.2.1)) : tyS)).bind fun z8 =>
 bif ((decide ((0 : Int) ≤ x6)) && (decide (x6 < (y0.2.1.length : Int)))) then
 (some ((y0.2.1.set x6.toNat ((y0.2.1.getD x6.toNat (0, [], false)).1, (y0.2.1.getD x6.toNat (0, [], false)).2.1, true)) : tyF)).bind fun z9 =>
 some (y0.1, z9, y0.2.2.1, z8, y0.2.2.2.2, true)
 else none
 else none
 else none
 else none
 else none
noncomputable def C19 : Con := ⟨[(.B, true, [iI, (.sl R4), (.sl R5), (.sl R7), (.sl R1)]), (.B, false, [iI]), (.B, false, [iI]), (.B, false, [.bool])], [(true, [iI, (.sl R4), (.sl R5), (.sl R7), (.sl R1)]), (false, [.bool])], [iI, (.sl R4), (.sl R5), (.sl R7), (.sl R1), iI, iI, .bool], [iI, (.sl R4), (.sl R5), (.sl R7), (.sl R1), .bool], fun (p : Int × tyF × tyH × tyS × List Int × Int × Int × Bool) => f_spec_Want p.1 p.2.1 p.2.2.1 p.2.2.2.1 p.2.2.2.2.1 p.2.2.2.2.2.1 p.2.2.2.2.2.2.1 p.2.2.2.2.2.2.2⟩
noncomputable abbrev K19 : Cons := [(48, C48), (60, C60), (77, C77), (78, C78), (79, C79)]
noncomputable abbrev L19 : List (Nat × Loops) := []
abbrev Q19 : List (Nat × List (Int × Nat) × Nat) := []
noncomputable abbrev X19 : Nat → Ctx := ctxOf tb K19 L19 Q19
theorem E19 : ∀ x, funRun fs X19 6 19 C19 x = C19.fn x := fun x => by kernel_rfl
theorem B19 : ConB Tryz.prog 19 C19 := ConB.make FS MIX TY (cons := K19) (L := L19) (ptrs := Q19) ⟨S48, S60, S77, S78, S79, trivial⟩ trivial trivial rfl rfl E19
theorem S19 : ConS Tryz.prog 19 C19 := B19.call rfl
noncomputable def f_spec_l6Do (x0 : Int) (x1 : tyN) (x2 : tyP) (x3 : Int) (x4 : Int) (x5 : Int) (x6 : Int) : Option (Int × tyN × tyP × Int) :=
 bif (decide (x3 = (3 : Int))) then
 (f_spec_l6Net x0 x1 x2 x3 x4 x5 x6).bind fun y0 =>
 some (y0.1, y0.2.1, y0.2.2.1, y0.2.2.2)
 else
 bif (decide (x3 = (4 : Int))) then
 (f_spec_l6Net x0 x1 x2 x3 x4 x5 x6).bind fun y1 =>
 some (y1.1, y1.2.1, y1.2.2.1, y1.2.2.2)
 else
 bif (decide (x3 = (5 : Int))) then
 (f_spec_l6Net x0 x1 x2 x3 x4 x5 x6).bind fun y2 =>
 some (y2.1, y2.2.1, y2.2.2.1, y2.2.2.2)
 else
 (f_spec_l1In x4 0 (IntKind.wrap .i64 (x0 - (1 : Int)))).bind fun y3 =>
 bif (!y3) then
 some (x0, x1, x2, 2)
 else
 bif (!(decide (x3 = (6 : Int)))) then
 (f_spec_l6Line x0 x1 x2 x3 x4 x5 x6).bind fun y4 =>
 some (y4.1, y4.2.1, y4.2.2.1, y4.2.2.2)
 else
 bif ((decide ((0 : Int) ≤ x4)) && (decide (x4 < (x1.length : Int)))) then
 (f_spec_Want ((x1.getD x4.toNat (0, [], [], [], [])).1) ((x1.getD x4.toNat (0, [], [], [], [])).2.1) ((x1.getD x4.toNat (0, [], [], [], [])).2.2.1) ((x1.getD x4.toNat (0, [], [], [], [])).2.2.2.1) ((x1.getD x4.toNat (0, [], [], [], [])).2.2.2.2) x0 x5 (decide (x6 = (1 : Int)))).bind fun y5 =>
 bif (!y5.2.2.2.2.2) then
 some (x0, x1, x2, 3)
 else
 bif ((decide ((0 : Int) ≤ x4)) && (decide (x4 < (x1.length : Int)))) then
 (some ((x1.set x4.toNat (y5.1, y5.2.1, y5.2.2.1, y5.2.2.2.1, y5.2.2.2.2.1)) : tyN)).bind fun z6 =>
 some (x0, z6, x2, 0)
 else none
 else none
noncomputable def C224 : Con := ⟨[(.M, true, [iI, (.sl R8), (.sl R9)]), (.B, true, [iI, iI, iI, iI])], [(true, [iI, (.sl R8), (.sl R9)]), (false, [iI])], [iI, (.sl R8), (.sl R9), iI, iI, iI, iI], [iI, (.sl R8), (.sl R9), iI], fun (p : Int × tyN × tyP × Int × Int × Int × Int) => f_spec_l6Do p.1 p.2.1 p.2.2.1 p.2.2.2.1 p.2.2.2.2.1 p.2.2.2.2.2.1 p.2.2.2.2.2.2⟩
noncomputable abbrev K224 : Cons := [(19, C19), (60, C60), (226, C226), (227, C227)]
noncomputable abbrev L224 : List (Nat × Loops) := []
abbrev Q224 : List (Nat × List (Int × Nat) × Nat) := []
noncomputable abbrev X224 : Nat → Ctx := ctxOf tb K224 L224 Q224
theorem E224 : ∀ x, funG fs X224 6 224 C224 x = C224.fn x := fun x => by kernel_rfl
theorem B224 : ConG Tryz.prog 224 C224 := ConG.make FS MIX TY (cons := K224) (L := L224) (ptrs := Q224) ⟨S19, S60, S226, S227, trivial⟩ trivial trivial rfl (by kernel_rfl) E224
theorem S224 : ConS Tryz.prog 224 C224 := B224.call (by kernel_rfl)
noncomputable def f_spec_WorldDo (x0 : Int) (x1 : tyN) (x2 : tyP) (x3 : Int) (x4 : Int) (x5 : Int) (x6 : Int) : Option (Int × tyN × tyP × Int) :=
 (f_spec_WorldOk x0 x1 x2).bind fun y0 =>
 bif (!y0) then
 some (0, [], [], 1)
 else
 (f_spec_l1In x3 1 6).bind fun y1 =>
 bif (!y1) then
 some (0, [], [], 1)
 else
 (f_spec_l6Copy x0 x1 x2).bind fun y2 =>
 (f_spec_l6Do y2.1 y2.2.1 y2.2.2 x3 x4 x5 x6).bind fun y3 =>
 bif (!(decide (y3.2.2.2 = (0 : Int)))) then
 (f_spec_l6Copy x0 x1 x2).bind fun y4 =>
 some (y4.1, y4.2.1, y4.2.2, y3.2.2.2)
 else
 some (y3.1, y3.2.1, y3.2.2.1, y3.2.2.2)
noncomputable def C221 : Con := ⟨[(.B, true, [iI, (.sl R8), (.sl R9)]), (.B, true, [iI, iI, iI, iI])], [(true, [iI, (.sl R8), (.sl R9)]), (false, [iI])], [iI, (.sl R8), (.sl R9), iI, iI, iI, iI], [iI, (.sl R8), (.sl R9), iI], fun (p : Int × tyN × tyP × Int × Int × Int × Int) => f_spec_WorldDo p.1 p.2.1 p.2.2.1 p.2.2.2.1 p.2.2.2.2.1 p.2.2.2.2.2.1 p.2.2.2.2.2.2⟩
noncomputable abbrev K221 : Cons := [(59, C59), (60, C60), (224, C224), (225, C225)]
noncomputable abbrev L221 : List (Nat × Loops) := []
abbrev Q221 : List (Nat × List (Int × Nat) × Nat) := []
noncomputable abbrev X221 : Nat → Ctx := ctxOf tb K221 L221 Q221
theorem E221 : ∀ x, funRun fs X221 6 221 C221 x = C221.fn x := fun x => by kernel_rfl
theorem B221 : ConB Tryz.prog 221 C221 := ConB.make FS MIX TY (cons := K221) (L := L221) (ptrs := Q221) ⟨S59, S60, S224, S225, trivial⟩ trivial trivial rfl rfl E221
theorem S221 : ConS Tryz.prog 221 C221 := B221.call rfl
noncomputable def f_spec_l6DrawRight.l1 : Nat → Int → Int → (List Int) → Int → Int → Int → Int → Int → Int → Int → (List (Int × Int × Int × Int)) → tyN → tyP → tyN → tyP → tyN → tyP → tyN → tyP → Option (List Int × Int × Int × Int × Int × Int × Int × Int × (List (Int × Int × Int × Int)) × tyN × tyP × tyN × tyP × tyN × tyP × tyN × tyP)
 | 0, _, _, _, _, _, _, _, _, _, _, _, _, _, _, _, _, _, _, _ => none
 | n + 1, p0, p1, p2, p3, p4, p5, p6, p7, p8, p9, p10, p11, p12, p13, p14, p15, p16, p17, p18 =>
 bif (decide (p1 < p0)) then
 (f_spec_l6DrawDeed p2 p3 p4 p9 p17 p18).bind fun y19 =>
 bif (Nat.blt (p10.length + ([(y19.1, y19.2.1, y19.2.2.1, y19.2.2.2.1)] : List (Int × Int × Int × Int)).length) 4398046511104) then
 (some ((p10 ++ ([(y19.1, y19.2.1, y19.2.2.1, y19.2.2.2.1)] : List (Int × Int × Int × Int))) : List (Int × Int × Int × Int))).bind fun z20 =>
 (f_spec_WorldDo p9 p17 p18 y19.1 y19.2.1 y19.2.2.1 y19.2.2.2.1).bind fun y21 =>
 bif (decide (y21.2.2.2 = (0 : Int))) then
 f_spec_l6DrawRight.l1 n p0 (IntKind.wrap .i64 (p1 + (1 : Int))) p2 y19.2.2.2.2.1 y19.2.2.2.2.2 p5 p6 p7 p8 y21.1 z20 p11 p12 p13 p14 p15 p16 y21.2.1 y21.2.2.1
 else
 f_spec_l6DrawRight.l1 n p0 (IntKind.wrap .i64 (p1 + (1 : Int))) p2 y19.2.2.2.2.1 y19.2.2.2.2.2 p5 p6 p7 p8 p9 z20 p11 p12 p13 p14 p15 p16 p17 p18
 else none
 else
 some (p2, p3, p4, p5, p6, p7, p8, p9, p10, p11, p12, p13, p14, p15, p16, p17, p18)
noncomputable def f_spec_l6DrawRight.l0 : Nat → Int → Int → (List Int) → Int → Int → Int → Int → Int → Int → Int → (List (Int × Int × Int × Int)) → tyN → tyP → tyN → tyP → tyN → tyP → Option ((Int × Int × List Int × Int × Int × Int × Int × Int × Int × Int × (List (Int × Int × Int × Int)) × tyN × tyP × tyN × tyP × tyN × tyP × tyN × tyP) ⊕ (List Int × Int × Int × Int × Int × Int × Int × Int × (List (Int × Int × Int × Int)) × tyN × tyP × tyN × tyP × tyN × tyP))
 | 0, _, _, _, _, _, _, _, _, _, _, _, _, _, _, _, _, _ => none
 | n + 1, p0, p1, p2, p3, p4, p5, p6, p7, p8, p9, p10, p11, p12, p13, p14, p15, p16 =>
 bif (decide (p1 < p0)) then
 (f_spec_l6DrawDeed p2 p3 p4 p9 p15 p16).bind fun y17 =>
 bif (Nat.blt (p10.length + ([(y17.1, y17.2.1, y17.2.2.1, y17.2.2.2.1)] : List (Int × Int × Int × Int)).length) 4398046511104) then
 (some ((p10 ++ ([(y17.1, y17.2.1, y17.2.2.1, y17.2.2.2.1)] : List (Int × Int × Int × Int))) : List (Int × Int × Int × Int))).bind fun z18 =>
 (f_spec_WorldDo p9 p15 p16 y17.1 y17.2.1 y17.2.2.1 y17.2.2.2.1).bind fun y19 =>
 bif (decide (y19.2.2.2 = (0 : Int))) then
 some (.inl (p0, (IntKind.wrap .i64 (p1 + (1 : Int))), p2, y17.2.2.2.2.1, y17.2.2.2.2.2, p5, p6, p7, p8, y19.1, z18, p11, p12, p13, p14, p15, p16, y19.2.1, y19.2.2.1))
 else
 f_spec_l6DrawRight.l0 n p0 (IntKind.wrap .i64 (p1 + (1 : Int))) p2 y17.2.2.2.2.1 y17.2.2.2.2.2 p5 p6 p7 p8 p9 z18 p11 p12 p13 p14 p15 p16
 else none
 else
 some (.inr (p2, p3, p4, p5, p6, p7, p8, p9, p10, p11, p12, p13, p14, p15, p16))
noncomputable def f_spec_l6DrawRight (x0 : List Int) (x1 : Int) (x2 : Int) : Option (Int × tyN × tyP × Int × Int) :=
 (f_spec_l1Below x0 x1 x2 3).bind fun y0 =>
 (f_spec_WorldNew (IntKind.wrap .i64 ((1 : Int) + y0.1))).bind fun y1 =>
 (f_spec_l1Below x0 y0.2.1 y0.2.2 51).bind fun y2 =>
 (f_spec_l6DrawRight.l0 N y2.1 0 x0 y2.2.1 y2.2.2 0 0 0 y1.1 y1.1 ([] : List (Int × Int × Int × Int)) ([] : tyN) ([] : tyP) ([] : tyN) ([] : tyP) y1.2.1 y1.2.2.1).bind fun r3 =>
 cs r3 (fun a4 =>
 (f_spec_l6DrawRight.l1 N a4.1 a4.2.1 a4.2.2.1 a4.2.2.2.1 a4.2.2.2.2.1 a4.2.2.2.2.2.1 a4.2.2.2.2.2.2.1 a4.2.2.2.2.2.2.2.1 a4.2.2.2.2.2.2.2.2.1 a4.2.2.2.2.2.2.2.2.2.1 a4.2.2.2.2.2.2.2.2.2.2.1 a4.2.2.2.2.2.2.2.2.2.2.2.1 a4.2.2.2.2.2.2.2.2.2.2.2.2.1 a4.2.2.2.2.2.2.2.2.2.2.2.2.2.1 a4.2.2.2.2.2.2.2.2.2.2.2.2.2.2.1 a4.2.2.2.2.2.2.2.2.2.2.2.2.2.2.2.1 a4.2.2.2.2.2.2.2.2.2.2.2.2.2.2.2.2.1 a4.2.2.2.2.2.2.2.2.2.2.2.2.2.2.2.2.2.1 a4.2.2.2.2.2.2.2.2.2.2.2.2.2.2.2.2.2.2).bind fun r5 =>
 some (r5.2.2.2.2.2.2.2.1, r5.2.2.2.2.2.2.2.2.2.2.2.2.2.2.2.1, r5.2.2.2.2.2.2.2.2.2.2.2.2.2.2.2.2, r5.2.1, r5.2.2.1)) (fun b6 =>
 some (b6.2.2.2.2.2.2.2.1, b6.2.2.2.2.2.2.2.2.2.2.2.2.2.1, b6.2.2.2.2.2.2.2.2.2.2.2.2.2.2, b6.2.1, b6.2.2.1))
noncomputable def C172 : Con := ⟨[(.P [false, true, true], false, [(.sl R0), iI, iI])], [(true, [iI, (.sl R8), (.sl R9)])], [(.sl R0), iI, iI], [iI, (.sl R8), (.sl R9), iI, iI], fun (p : List Int × Int × Int) => f_spec_l6DrawRight p.1 p.2.1 p.2.2⟩
noncomputable abbrev f_spec_l6DrawRight.l0.u (n : Nat) := fun (p : Int × Int × List Int × Int × Int × Int × Int × Int × Int × Int × (List (Int × Int × Int × Int)) × tyN × tyP × tyN × tyP × tyN × tyP) => f_spec_l6DrawRight.l0 n p.1 p.2.1 p.2.2.1 p.2.2.2.1 p.2.2.2.2.1 p.2.2.2.2.2.1 p.2.2.2.2.2.2.1 p.2.2.2.2.2.2.2.1 p.2.2.2.2.2.2.2.2.1 p.2.2.2.2.2.2.2.2.2.1 p.2.2.2.2.2.2.2.2.2.2.1 p.2.2.2.2.2.2.2.2.2.2.2.1 p.2.2.2.2.2.2.2.2.2.2.2.2.1 p.2.2.2.2.2.2.2.2.2.2.2.2.2.1 p.2.2.2.2.2.2.2.2.2.2.2.2.2.2.1 p.2.2.2.2.2.2.2.2.2.2.2.2.2.2.2.1 p.2.2.2.2.2.2.2.2.2.2.2.2.2.2.2.2
noncomputable def f_spec_l6DrawRight.l0.c : LoopCon := ⟨1195, 5, [0, 4, 6, 7, 9, 10, 11, 12], ⟨[(0, .ptr 500 0), (4, .ptr 1195 0), (6, .ptr 1196 0), (7, .ptr 1197 0), (9, .ptr 1198 0), (10, .ref 1199 [] none), (11, i0), (12, i0)], [(500, .box [.bor (some 0) R0 [], i0, i0]), (1003, .box [i0, .nil (some R8), .nil (some R9)]), (1195, .box [i0, .ref 1200 [] none, .ref 1201 [] none]), (1196, .box [i0, .ref 1202 [] none, .ref 1203 [] none]), (1197, .box [i0, .ref 1204 [] none, .ref 1205 [] none]), (1198, .box [i0, .ref 1204 [] none, .ref 1205 [] none]), (1199, .row R11 []), (1200, .row R8 []), (1201, .row R9 []), (1202, .row R8 []), (1203, .row R9 []), (1204, .row R8 []), (1205, .row R9 [])], 1206⟩, [iI, iI, (.sl R0), iI, iI, iI, iI, iI, iI, iI, (.sl R11), (.sl R8), (.sl R9), (.sl R8), (.sl R9), (.sl R8), (.sl R9)], [⟨.normal, [0, 4, 6, 7, 9, 10, 11, 12], ⟨[(0, .ptr 500 0), (4, .ptr 1195 0), (6, .ptr 1196 0), (7, .ptr 1197 0), (9, .ptr 1198 0), (10, .ref 1199 [] none), (11, i0), (12, i0)], [(500, .box [.bor (some 0) R0 [], i0, i0]), (1003, .box [i0, .nil (some R8), .nil (some R9)]), (1195, .box [i0, .ref 1200 [] none, .ref 1201 [] none]), (1196, .box [i0, .ref 1202 [] none, .ref 1203 [] none]), (1197, .box [i0, .ref 1204 [] none, .ref 1205 [] none]), (1198, .box [i0, .ref 1206 [] none, .ref 1207 [] none]), (1199, .row R11 []), (1200, .row R8 []), (1201, .row R9 []), (1202, .row R8 []), (1203, .row R9 []), (1204, .row R8 []), (1205, .row R9 []), (1206, .row R8 []), (1207, .row R9 [])], 1208⟩, [iI, iI, (.sl R0), iI, iI, iI, iI, iI, iI, iI, (.sl R11), (.sl R8), (.sl R9), (.sl R8), (.sl R9), (.sl R8), (.sl R9), (.sl R8), (.sl R9)]⟩, ⟨.exit 0, [4, 6, 7, 9, 10], ⟨[(4, .ptr 1195 0), (6, .ptr 1196 0), (7, .ptr 1197 0), (9, .ptr 1198 0), (10, .ref 1199 [] none)], [(500, .box [.bor (some 0) R0 [], i0, i0]), (1003, .box [i0, .nil (some R8), .nil (some R9)]), (1195, .box [i0, .ref 1200 [] none, .ref 1201 [] none]), (1196, .box [i0, .ref 1202 [] none, .ref 1203 [] none]), (1197, .box [i0, .ref 1204 [] none, .ref 1205 [] none]), (1198, .box [i0, .ref 1204 [] none, .ref 1205 [] none]), (1199, .row R11 []), (1200, .row R8 []), (1201, .row R9 []), (1202, .row R8 []), (1203, .row R9 []), (1204, .row R8 []), (1205, .row R9 [])], 1206⟩, [(.sl R0), iI, iI, iI, iI, iI, iI, iI, (.sl R11), (.sl R8), (.sl R9), (.sl R8), (.sl R9), (.sl R8), (.sl R9)]⟩], f_spec_l6DrawRight.l0.u N⟩
noncomputable abbrev f_spec_l6DrawRight.l1.u (n : Nat) := fun (p : Int × Int × List Int × Int × Int × Int × Int × Int × Int × Int × (List (Int × Int × Int × Int)) × tyN × tyP × tyN × tyP × tyN × tyP × tyN × tyP) => f_spec_l6DrawRight.l1 n p.1 p.2.1 p.2.2.1 p.2.2.2.1 p.2.2.2.2.1 p.2.2.2.2.2.1 p.2.2.2.2.2.2.1 p.2.2.2.2.2.2.2.1 p.2.2.2.2.2.2.2.2.1 p.2.2.2.2.2.2.2.2.2.1 p.2.2.2.2.2.2.2.2.2.2.1 p.2.2.2.2.2.2.2.2.2.2.2.1 p.2.2.2.2.2.2.2.2.2.2.2.2.1 p.2.2.2.2.2.2.2.2.2.2.2.2.2.1 p.2.2.2.2.2.2.2.2.2.2.2.2.2.2.1 p.2.2.2.2.2.2.2.2.2.2.2.2.2.2.2.1 p.2.2.2.2.2.2.2.2.2.2.2.2.2.2.2.2.1 p.2.2.2.2.2.2.2.2.2.2.2.2.2.2.2.2.2.1 p.2.2.2.2.2.2.2.2.2.2.2.2.2.2.2.2.2.2
noncomputable def f_spec_l6DrawRight.l1.c : LoopCon := ⟨1195, 5, [0, 4, 6, 7, 9, 10, 11, 12], ⟨[(0, .ptr 500 0), (4, .ptr 1195 0), (6, .ptr 1196 0), (7, .ptr 1197 0), (9, .ptr 1198 0), (10, .ref 1199 [] none), (11, i0), (12, i0)], [(500, .box [.bor (some 0) R0 [], i0, i0]), (1003, .box [i0, .nil (some R8), .nil (some R9)]), (1195, .box [i0, .ref 1200 [] none, .ref 1201 [] none]), (1196, .box [i0, .ref 1202 [] none, .ref 1203 [] none]), (1197, .box [i0, .ref 1204 [] none, .ref 1205 [] none]), (1198, .box [i0, .ref 1206 [] none, .ref 1207 [] none]), (1199, .row R11 []), (1200, .row R8 []), (1201, .row R9 []), (1202, .row R8 []), (1203, .row R9 []), (1204, .row R8 []), (1205, .row R9 []), (1206, .row R8 []), (1207, .row R9 [])], 1208⟩, [iI, iI, (.sl R0), iI, iI, iI, iI, iI, iI, iI, (.sl R11), (.sl R8), (.sl R9), (.sl R8), (.sl R9), (.sl R8), (.sl R9), (.sl R8), (.sl R9)], [⟨.exit 0, [4, 6, 7, 9, 10], ⟨[(4, .ptr 1195 0), (6, .ptr 1196 0), (7, .ptr 1197 0), (9, .ptr 1198 0), (10, .ref 1199 [] none)], [(500, .box [.bor (some 0) R0 [], i0, i0]), (1003, .box [i0, .nil (some R8), .nil (some R9)]), (1195, .box [i0, .ref 1200 [] none, .ref 1201 [] none]), (1196, .box [i0, .ref 1202 [] none, .ref 1203 [] none]), (1197, .box [i0, .ref 1204 [] none, .ref 1205 [] none]), (1198, .box [i0, .ref 1206 [] none, .ref 1207 [] none]), (1199, .row R11 []), (1200, .row R8 []), (1201, .row R9 []), (1202, .row R8 []), (1203, .row R9 []), (1204, .row R8 []), (1205, .row R9 []), (1206, .row R8 []), (1207, .row R9 [])], 1208⟩, [(.sl R0), iI, iI, iI, iI, iI, iI, iI, (.sl R11), (.sl R8), (.sl R9), (.sl R8), (.sl R9), (.sl R8), (.sl R9), (.sl R8), (.sl R9)]⟩], f_spec_l6DrawRight.l1.u N⟩
noncomputable abbrev K172 : Cons := [(106, C106), (219, C219), (220, C220), (221, C221)]
noncomputable abbrev L172 : List (Nat × Loops) := [(206, [(6, f_spec_l6DrawRight.l0.c), (6, f_spec_l6DrawRight.l1.c)])]
abbrev Q172 : List (Nat × List (Int × Nat) × Nat) := []
noncomputable abbrev X172 : Nat → Ctx := ctxOf tb K172 L172 Q172
theorem f_spec_l6DrawRight.l0.ok : ∀ n p, f_spec_l6DrawRight.l0.u n p = iterD (roundOf fs X172 5 206 6 true f_spec_l6DrawRight.l0.c) n p :=
 iter_of (l := f_spec_l6DrawRight.l0.u) (fun _ => rfl) (fun n p => by kernel_rfl)
theorem f_spec_l6DrawRight.l1.ok : ∀ n p, f_spec_l6DrawRight.l1.u n p = iterD (roundOf fs X172 5 206 6 true f_spec_l6DrawRight.l1.c) n p :=
 iter_of (l := f_spec_l6DrawRight.l1.u) (fun _ => rfl) (fun n p => by kernel_rfl)
theorem E172 : ∀ x, funG fs X172 6 172 C172 x = C172.fn x := fun x => by kernel_rfl
theorem B172 : ConG Tryz.prog 172 C172 := ConG.make FS MIX TY (cons := K172) (L := L172) (ptrs := Q172) ⟨S106, S219, S220, S221, trivial⟩ trivial ⟨⟨⟨N, fun p => f_spec_l6DrawRight.l0.ok N p⟩, ⟨N, fun p => f_spec_l6DrawRight.l1.ok N p⟩, trivial⟩, trivial⟩ rfl (by kernel_rfl) E172
theorem S172 : ConS Tryz.prog 172 C172 := B172.call (by kernel_rfl)
noncomputable def f_spec_l1PickInt (x0 : List Int) (x1 : Int) (x2 : Int) (x3 : List Int) : Option (Int × Int × Int) :=
 (f_spec_l1Below x0 x1 x2 (x3.length : Int)).bind fun y0 =>
 bif ((decide ((0 : Int) ≤ y0.1)) && (decide (y0.1 < (x3.length : Int)))) then
 some ((x3.getD y0.1.toNat 0), y0.2.1, y0.2.2)
 else none
noncomputable def C176 : Con := ⟨[(.P [false, true, true], false, [(.sl R0), iI, iI]), (.B, false, [(.sl R1)])], [(false, [iI])], [(.sl R0), iI, iI, (.sl R1)], [iI, iI, iI], fun (p : List Int × Int × Int × List Int) => f_spec_l1PickInt p.1 p.2.1 p.2.2.1 p.2.2.2⟩
noncomputable abbrev K176 : Cons := [(106, C106)]
noncomputable abbrev L176 : List (Nat × Loops) := []
abbrev Q176 : List (Nat × List (Int × Nat) × Nat) := []
noncomputable abbrev X176 : Nat → Ctx := ctxOf tb K176 L176 Q176
theorem E176 : ∀ x, funG fs X176 6 176 C176 x = C176.fn x := fun x => by kernel_rfl
theorem B176 : ConG Tryz.prog 176 C176 := ConG.make FS MIX TY (cons := K176) (L := L176) (ptrs := Q176) ⟨S106, trivial⟩ trivial trivial rfl (by kernel_rfl) E176
theorem S176 : ConS Tryz.prog 176 C176 := B176.call (by kernel_rfl)
noncomputable def f_spec_l1DrawList.l0 : Nat → Int → (List Int) → Int → Int → (List Int) → Option (List Int × Int × Int × List Int)
 | 0, _, _, _, _, _ => none
 | n + 1, p0, p1, p2, p3, p4 =>
 bif (decide (p0 < (4 : Int))) then
 (f_spec_l1PickInt p1 p2 p3 ([0, 1, 5, 300, 65535] : List Int)).bind fun y5 =>
 bif (Nat.blt (p4.length + ([y5.1] : List Int).length) 17592186044416) then
 (some ((p4 ++ ([y5.1] : List Int)) : List Int)).bind fun z6 =>
 f_spec_l1DrawList.l0 n (IntKind.wrap .i64 (p0 + (1 : Int))) p1 y5.2.1 y5.2.2 z6
 else none
 else
 some (p1, p2, p3, p4)
noncomputable def f_spec_l1DrawList (x0 : List Int) (x1 : Int) (x2 : Int) : Option (List Int × Int × Int) :=
 (f_spec_l1DrawList.l0 N 0 x0 x1 x2 ([] : List Int)).bind fun r0 =>
 some (r0.2.2.2, r0.2.1, r0.2.2.1)
noncomputable def C209 : Con := ⟨[(.P [false, true, true], false, [(.sl R0), iI, iI])], [(false, [(.sl R1)])], [(.sl R0), iI, iI], [(.sl R1), iI, iI], fun (p : List Int × Int × Int) => f_spec_l1DrawList p.1 p.2.1 p.2.2⟩
noncomputable abbrev f_spec_l1DrawList.l0.u (n : Nat) := fun (p : Int × List Int × Int × Int × List Int) => f_spec_l1DrawList.l0 n p.1 p.2.1 p.2.2.1 p.2.2.2.1 p.2.2.2.2
noncomputable def f_spec_l1DrawList.l0.c : LoopCon := ⟨1000, 6, [0, 2, 3, 4], ⟨[(0, .ptr 500 0), (2, .nil (some R1)), (3, .ref 1000 [] none), (4, i0)], [(500, .box [.bor (some 0) R0 [], i0, i0]), (1000, .row R1 [])], 1001⟩, [iI, (.sl R0), iI, iI, (.sl R1)], [⟨.exit 0, [2, 3], ⟨[(2, .nil (some R1)), (3, .ref 1000 [] none)], [(500, .box [.bor (some 0) R0 [], i0, i0]), (1000, .row R1 [])], 1001⟩, [(.sl R0), iI, iI, (.sl R1)]⟩], f_spec_l1DrawList.l0.u N⟩
noncomputable abbrev K209 : Cons := [(176, C176)]
noncomputable abbrev L209 : List (Nat × Loops) := [(209, [(3, f_spec_l1DrawList.l0.c)])]
abbrev Q209 : List (Nat × List (Int × Nat) × Nat) := []
noncomputable abbrev X209 : Nat → Ctx := ctxOf tb K209 L209 Q209
theorem f_spec_l1DrawList.l0.ok : ∀ n p, f_spec_l1DrawList.l0.u n p = iterD (roundOf fs X209 6 209 3 false f_spec_l1DrawList.l0.c) n p :=
 iter_of (l := f_spec_l1DrawList.l0.u) (fun _ => rfl) (fun n p => by kernel_rfl)
theorem E209 : ∀ x, funG fs X209 6 209 C209 x = C209.fn x := fun x => by kernel_rfl
theorem B209 : ConG Tryz.prog 209 C209 := ConG.make FS MIX TY (cons := K209) (L := L209) (ptrs := Q209) ⟨S176, trivial⟩ trivial ⟨⟨⟨N, fun p => f_spec_l1DrawList.l0.ok N p⟩, trivial⟩, trivial⟩ rfl (by kernel_rfl) E209
theorem S209 : ConS Tryz.prog 209 C209 := B209.call (by kernel_rfl)
noncomputable def f_spec_l3DrawRight (x0 : List Int) (x1 : Int) (x2 : Int) : Option (Int × List Int × Bool × Int × Int) :=
 (f_spec_l1Below x0 x1 x2 3).bind fun y0 =>
 (f_spec_l1Once x0 y0.2.1 y0.2.2 3).bind fun y1 =>
 bif (!(decide (y0.1 = (0 : Int)))) then
 (f_spec_l1DrawList x0 y1.2.1 y1.2.2).bind fun y2 =>
 some (y0.1, y2.1, y1.1, y2.2.1, y2.2.2)
 else
 some (y0.1, [], y1.1, y1.2.1, y1.2.2)
noncomputable def C207 : Con := ⟨[(.P [false, true, true], false, [(.sl R0), iI, iI])], [(true, [iI, (.sl R1), .bool])], [(.sl R0), iI, iI], [iI, (.sl R1), .bool, iI, iI], fun (p : List Int × Int × Int) => f_spec_l3DrawRight p.1 p.2.1 p.2.2⟩
noncomputable abbrev K207 : Cons := [(106, C106), (109, C109), (209, C209)]
noncomputable abbrev L207 : List (Nat × Loops) := []
abbrev Q207 : List (Nat × List (Int × Nat) × Nat) := []
noncomputable abbrev X207 : Nat → Ctx := ctxOf tb K207 L207 Q207
theorem E207 : ∀ x, funG fs X207 6 207 C207 x = C207.fn x := fun x => by kernel_rfl
theorem B207 : ConG Tryz.prog 207 C207 := ConG.make FS MIX TY (cons := K207) (L := L207) (ptrs := Q207) ⟨S106, S109, S209, trivial⟩ trivial trivial rfl (by kernel_rfl) E207
theorem S207 : ConS Tryz.prog 207 C207 := B207.call (by kernel_rfl)
noncomputable def f_spec_l3Draw (x0 : List Int) (x1 : Int) (x2 : Int) : Option (Int × List Int × Bool × Int × Int) :=
 (f_spec_l3DrawRight x0 x1 x2).bind fun y0 =>
 (f_spec_l1Below x0 y0.2.2.2.1 y0.2.2.2.2 12).bind fun y1 =>
 bif (decide (y1.1 = (0 : Int))) then
 (f_spec_l1Below x0 y1.2.1 y1.2.2 5).bind fun y2 =>
 some ((IntKind.wrap .i64 (y2.1 - (1 : Int))), y0.2.1, y0.2.2.1, y2.2.1, y2.2.2)
 else
 bif (decide (y1.1 = (1 : Int))) then
 bif (Nat.blt (y0.2.1.length + ([3] : List Int).length) 17592186044416) then
 (some ((y0.2.1 ++ ([3] : List Int)) : List Int)).bind fun z3 =>
 some (y0.1, z3, y0.2.2.1, y1.2.1, y1.2.2)
 else none
 else
 bif (decide (y1.1 = (2 : Int))) then
 some (y0.1, [], y0.2.2.1, y1.2.1, y1.2.2)
 else
 some (y0.1, y0.2.1, y0.2.2.1, y1.2.1, y1.2.2)
noncomputable def C173 : Con := ⟨[(.P [false, true, true], false, [(.sl R0), iI, iI])], [(true, [iI, (.sl R1), .bool])], [(.sl R0), iI, iI], [iI, (.sl R1), .bool, iI, iI], fun (p : List Int × Int × Int) => f_spec_l3Draw p.1 p.2.1 p.2.2⟩
noncomputable abbrev K173 : Cons := [(106, C106), (207, C207)]
noncomputable abbrev L173 : List (Nat × Loops) := []
abbrev Q173 : List (Nat × List (Int × Nat) × Nat) := []
noncomputable abbrev X173 : Nat → Ctx := ctxOf tb K173 L173 Q173
theorem E173 : ∀ x, funG fs X173 6 173 C173 x = C173.fn x := fun x => by kernel_rfl
theorem B173 : ConG Tryz.prog 173 C173 := ConG.make FS MIX TY (cons := K173) (L := L173) (ptrs := Q173) ⟨S106, S207, trivial⟩ trivial trivial rfl (by kernel_rfl) E173
theorem S173 : ConS Tryz.prog 173 C173 := B173.call (by kernel_rfl)
noncomputable def f_spec_l4DrawRight.l0 : Nat → Int → Int → (List Int) → Int → Int → Int → Bool → Int → Bool → Int → Int → Bool → Int → Bool → Int → (List Int) → (List Bool) → tyW → (List Int) → (List Bool) → tyW → Option (List Int × Int × Int × Int × Bool × Int × Bool × Int × Int × Bool × Int × Bool × Int × List Int × List Bool × tyW × List Int × List Bool × tyW)
 | 0, _, _, _, _, _, _, _, _, _, _, _, _, _, _, _, _, _, _, _, _, _ => none
 | n + 1, p0, p1, p2, p3, p4, p5, p6, p7, p8, p9, p10, p11, p12, p13, p14, p15, p16, p17, p18, p19, p20 =>
 bif (decide (p1 < p0)) then
 (f_spec_l1PickInt p2 p3 p4 ([1, 2, 2, 5, 7] : List Int)).bind fun y21 =>
 bif (decide (y21.1 = (7 : Int))) then
 (f_spec_l1DrawList p2 y21.2.1 y21.2.2).bind fun y22 =>
 (f_spec_l1Below p2 y22.2.1 y22.2.2 3).bind fun y23 =>
 bif (decide (y21.1 = (7 : Int))) then
 bif (decide ((0 : Int) ≤ p10)) then
 (f_spec_HomeHear p18 p10 p19 p11 p12 p13 p14 p20 3 0 p10 y21.1 0 false y22.1).bind fun y24 =>
 f_spec_l4DrawRight.l0 n p0 (IntKind.wrap .i64 (p1 + (1 : Int))) p2 y23.2.1 y23.2.2 p5 p6 p7 p8 p9 y24.2.1 y24.2.2.2.1 y24.2.2.2.2.1 y24.2.2.2.2.2.1 y24.2.2.2.2.2.2.1 p15 p16 p17 y24.1 y24.2.2.1 y24.2.2.2.2.2.2.2.1
 else
 (f_spec_HomeHear p18 p10 p19 p11 p12 p13 p14 p20 3 0 y23.1 y21.1 0 false y22.1).bind fun y25 =>
 f_spec_l4DrawRight.l0 n p0 (IntKind.wrap .i64 (p1 + (1 : Int))) p2 y23.2.1 y23.2.2 p5 p6 p7 p8 p9 y25.2.1 y25.2.2.2.1 y25.2.2.2.2.1 y25.2.2.2.2.2.1 y25.2.2.2.2.2.2.1 p15 p16 p17 y25.1 y25.2.2.1 y25.2.2.2.2.2.2.2.1
 else
 (f_spec_HomeHear p18 p10 p19 p11 p12 p13 p14 p20 3 0 y23.1 y21.1 0 false y22.1).bind fun y26 =>
 f_spec_l4DrawRight.l0 n p0 (IntKind.wrap .i64 (p1 + (1 : Int))) p2 y23.2.1 y23.2.2 p5 p6 p7 p8 p9 y26.2.1 y26.2.2.2.1 y26.2.2.2.2.1 y26.2.2.2.2.2.1 y26.2.2.2.2.2.2.1 p15 p16 p17 y26.1 y26.2.2.1 y26.2.2.2.2.2.2.2.1
 else
 (f_spec_l1Below p2 y21.2.1 y21.2.2 3).bind fun y27 =>
 bif (decide (y21.1 = (7 : Int))) then
 bif (decide ((0 : Int) ≤ p10)) then
 (f_spec_HomeHear p18 p10 p19 p11 p12 p13 p14 p20 3 0 p10 y21.1 0 false []).bind fun y28 =>
 f_spec_l4DrawRight.l0 n p0 (IntKind.wrap .i64 (p1 + (1 : Int))) p2 y27.2.1 y27.2.2 p5 p6 p7 p8 p9 y28.2.1 y28.2.2.2.1 y28.2.2.2.2.1 y28.2.2.2.2.2.1 y28.2.2.2.2.2.2.1 p15 p16 p17 y28.1 y28.2.2.1 y28.2.2.2.2.2.2.2.1
 else
 (f_spec_HomeHear p18 p10 p19 p11 p12 p13 p14 p20 3 0 y27.1 y21.1 0 false []).bind fun y29 =>
 f_spec_l4DrawRight.l0 n p0 (IntKind.wrap .i64 (p1 + (1 : Int))) p2 y27.2.1 y27.2.2 p5 p6 p7 p8 p9 y29.2.1 y29.2.2.2.1 y29.2.2.2.2.1 y29.2.2.2.2.2.1 y29.2.2.2.2.2.2.1 p15 p16 p17 y29.1 y29.2.2.1 y29.2.2.2.2.2.2.2.1
 else
 (f_spec_HomeHear p18 p10 p19 p11 p12 p13 p14 p20 3 0 y27.1 y21.1 0 false []).bind fun y30 =>
 f_spec_l4DrawRight.l0 n p0 (IntKind.wrap .i64 (p1 + (1 : Int))) p2 y27.2.1 y27.2.2 p5 p6 p7 p8 p9 y30.2.1 y30.2.2.2.1 y30.2.2.2.2.1 y30.2.2.2.2.2.1 y30.2.2.2.2.2.2.1 p15 p16 p17 y30.1 y30.2.2.1 y30.2.2.2.2.2.2.2.1
 else
 some (p2, p3, p4, p5, p6, p7, p8, p9, p10, p11, p12, p13, p14, p15, p16, p17, p18, p19, p20)
noncomputable def f_spec_l4DrawRight (x0 : List Int) (x1 : Int) (x2 : Int) : Option (List Int × Int × List Bool × Bool × Int × Bool × Int × tyW × Int × Int) :=
 (f_spec_HomeNew 3).bind fun y0 =>
 (f_spec_l1Below x0 x1 x2 8).bind fun y1 =>
 (f_spec_l4DrawRight.l0 N y1.1 0 x0 y1.2.1 y1.2.2 0 false 0 false 0 y0.2.1 y0.2.2.2.1 y0.2.2.2.2.1 y0.2.2.2.2.2.1 y0.2.2.2.2.2.2.1 ([] : List Int) ([] : List Bool) ([] : tyW) y0.1 y0.2.2.1 y0.2.2.2.2.2.2.2).bind fun r2 =>
 some (r2.2.2.2.2.2.2.2.2.2.2.2.2.2.2.2.2.1, r2.2.2.2.2.2.2.2.2.1, r2.2.2.2.2.2.2.2.2.2.2.2.2.2.2.2.2.2.1, r2.2.2.2.2.2.2.2.2.2.1, r2.2.2.2.2.2.2.2.2.2.2.1, r2.2.2.2.2.2.2.2.2.2.2.2.1, r2.2.2.2.2.2.2.2.2.2.2.2.2.1, r2.2.2.2.2.2.2.2.2.2.2.2.2.2.2.2.2.2.2, r2.2.1, r2.2.2.1)
noncomputable def C208 : Con := ⟨[(.P [false, true, true], false, [(.sl R0), iI, iI])], [(true, [(.sl R1), iI, (.sl R2), .bool, iI, .bool, iI, (.sl R3)])], [(.sl R0), iI, iI], [(.sl R1), iI, (.sl R2), .bool, iI, .bool, iI, (.sl R3), iI, iI], fun (p : List Int × Int × Int) => f_spec_l4DrawRight p.1 p.2.1 p.2.2⟩
noncomputable abbrev f_spec_l4DrawRight.l0.u (n : Nat) := fun (p : Int × Int × List Int × Int × Int × Int × Bool × Int × Bool × Int × Int × Bool × Int × Bool × Int × List Int × List Bool × tyW × List Int × List Bool × tyW) => f_spec_l4DrawRight.l0 n p.1 p.2.1 p.2.2.1 p.2.2.2.1 p.2.2.2.2.1 p.2.2.2.2.2.1 p.2.2.2.2.2.2.1 p.2.2.2.2.2.2.2.1 p.2.2.2.2.2.2.2.2.1 p.2.2.2.2.2.2.2.2.2.1 p.2.2.2.2.2.2.2.2.2.2.1 p.2.2.2.2.2.2.2.2.2.2.2.1 p.2.2.2.2.2.2.2.2.2.2.2.2.1 p.2.2.2.2.2.2.2.2.2.2.2.2.2.1 p.2.2.2.2.2.2.2.2.2.2.2.2.2.2.1 p.2.2.2.2.2.2.2.2.2.2.2.2.2.2.2.1 p.2.2.2.2.2.2.2.2.2.2.2.2.2.2.2.2.1 p.2.2.2.2.2.2.2.2.2.2.2.2.2.2.2.2.2.1 p.2.2.2.2.2.2.2.2.2.2.2.2.2.2.2.2.2.2.1 p.2.2.2.2.2.2.2.2.2.2.2.2.2.2.2.2.2.2.2.1 p.2.2.2.2.2.2.2.2.2.2.2.2.2.2.2.2.2.2.2.2
noncomputable def f_spec_l4DrawRight.l0.c : LoopCon := ⟨1000, 6, [0, 2, 3, 4, 5], ⟨[(0, .ptr 500 0), (2, .ptr 1000 0), (3, .ptr 1001 0), (4, i0), (5, i0)], [(500, .box [.bor (some 0) R0 [], i0, i0]), (1000, .box [.ref 1002 [] none, i0, .ref 1003 [] none, .bool false, i0, .bool false, i0, .ref 1004 [] none]), (1001, .box [.ref 1005 [] none, i0, .ref 1006 [] none, .bool false, i0, .bool false, i0, .ref 1007 [] none]), (1002, .row R1 []), (1003, .row R2 []), (1004, .row R3 []), (1005, .row R1 []), (1006, .row R2 []), (1007, .row R3 [])], 1008⟩, [iI, iI, (.sl R0), iI, iI, iI, .bool, iI, .bool, iI, iI, .bool, iI, .bool, iI, (.sl R1), (.sl R2), (.sl R3), (.sl R1), (.sl R2), (.sl R3)], [⟨.exit 0, [2, 3], ⟨[(2, .ptr 1000 0), (3, .ptr 1001 0)], [(500, .box [.bor (some 0) R0 [], i0, i0]), (1000, .box [.ref 1002 [] none, i0, .ref 1003 [] none, .bool false, i0, .bool false, i0, .ref 1004 [] none]), (1001, .box [.ref 1005 [] none, i0, .ref 1006 [] none, .bool false, i0, .bool false, i0, .ref 1007 [] none]), (1002, .row R1 []), (1003, .row R2 []), (1004, .row R3 []), (1005, .row R1 []), (1006, .row R2 []), (1007, .row R3 [])], 1008⟩, [(.sl R0), iI, iI, iI, .bool, iI, .bool, iI, iI, .bool, iI, .bool, iI, (.sl R1), (.sl R2), (.sl R3), (.sl R1), (.sl R2), (.sl R3)]⟩], f_spec_l4DrawRight.l0.u N⟩
noncomputable abbrev K208 : Cons := [(106, C106), (114, C114), (134, C134), (176, C176), (209, C209)]
noncomputable abbrev L208 : List (Nat × Loops) := [(208, [(4, f_spec_l4DrawRight.l0.c)])]
abbrev Q208 : List (Nat × List (Int × Nat) × Nat) := []
noncomputable abbrev X208 : Nat → Ctx := ctxOf tb K208 L208 Q208
theorem f_spec_l4DrawRight.l0.ok : ∀ n p, f_spec_l4DrawRight.l0.u n p = iterD (roundOf fs X208 6 208 4 false f_spec_l4DrawRight.l0.c) n p :=
 iter_of (l := f_spec_l4DrawRight.l0.u) (fun _ => rfl) (fun n p => by kernel_rfl)
theorem E208 : ∀ x, funG fs X208 6 208 C208 x = C208.fn x := fun x => by kernel_rfl
theorem B208 : ConG Tryz.prog 208 C208 := ConG.make FS MIX TY (cons := K208) (L := L208) (ptrs := Q208) ⟨S106, S114, S134, S176, S209, trivial⟩ trivial ⟨⟨⟨N, fun p => f_spec_l4DrawRight.l0.ok N p⟩, trivial⟩, trivial⟩ rfl (by kernel_rfl) E208
theorem S208 : ConS Tryz.prog 208 C208 := B208.call (by kernel_rfl)
end
end Go.Abs
