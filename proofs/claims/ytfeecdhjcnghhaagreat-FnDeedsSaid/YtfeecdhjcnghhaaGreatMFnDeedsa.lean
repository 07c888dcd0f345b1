import Derived.Test.YtfeecdhjcnghhaaGreatProg
import Derived.Test.YtfeecdhjcnghhaaGreatAbtF
import Derived.KernelRfl
namespace Go.Proofs
open Go.Shelf Go.Lib
def Tryz.reverse113_ren : Go.Shelf.Ren := ⟨fun | 35 => 113 | n => n, fun | 22 => 99 | 23 => 79 | n => n, fun n => n⟩
theorem Tryz.reverse113 : SlLaysE0.n35 Tryz.prog Tryz.reverse113_ren where
  mixed := by kernel_rfl
  f35 := Exists.intro "slices.Reverse[[]loop.example/g00281/impl.Msg,loop.example/g00281/impl.Msg]" ⟨by decide, Tryz.func113.trans (congrArg some (by kernel_rfl))⟩
  t0 := Tryz.underlying0
  a0 := Tryz.isAgg0
  z0 := Tryz.sizeOf0
  v0 := Tryz.zeroValue0
  t3 := Tryz.underlying3
  a3 := Tryz.isAgg3
  z3 := Tryz.sizeOf3
  v3 := Tryz.zeroValue3
  t4 := Tryz.underlying4
  a4 := Tryz.isAgg4
  z4 := Tryz.sizeOf4
  v4 := Tryz.zeroValue4
  t22 := Tryz.underlying99
  a22 := Tryz.isAgg99
  z22 := Tryz.sizeOf99
  v22 := Tryz.zeroValue99
def Tryz.delete135_ren : Go.Shelf.Ren := ⟨fun | 45 => 135 | n => n, fun | 22 => 25 | 23 => 81 | n => n, fun n => n⟩
theorem Tryz.delete135 : SlLaysE0.n45 Tryz.prog Tryz.delete135_ren where
  mixed := by kernel_rfl
  f45 := Exists.intro "slices.Delete[[]loop.example/g00281/impl.Packet,loop.example/g00281/impl.Packet]" ⟨by decide, Tryz.func135.trans (congrArg some (by kernel_rfl))⟩
  t0 := Tryz.underlying0
  a0 := Tryz.isAgg0
  z0 := Tryz.sizeOf0
  v0 := Tryz.zeroValue0
  t3 := Tryz.underlying3
  a3 := Tryz.isAgg3
  z3 := Tryz.sizeOf3
  v3 := Tryz.zeroValue3
  t4 := Tryz.underlying4
  a4 := Tryz.isAgg4
  z4 := Tryz.sizeOf4
  v4 := Tryz.zeroValue4
  t22 := Tryz.underlying25
  a22 := Tryz.isAgg25
  z22 := Tryz.sizeOf25
  v22 := Tryz.zeroValue25
end Go.Proofs
namespace Go.Abs
open Go.Proofs
set_option linter.unusedVariables false
set_option maxRecDepth 100000
noncomputable section
abbrev tyN := List (Int × List (Int × List Int × Bool) × List (List Int × Int × List Bool × Bool × Int × Bool × Int × List (Int × Bool)) × List (Int × List (Int × Int × Bool × List Int)) × List Int)
abbrev tyP := List (Int × Int × Bool × Int × Int × Int × Bool × List Int)
abbrev tyH := List (List Int × Int × List Bool × Bool × Int × Bool × Int × List (Int × Bool))
abbrev tyS := List (Int × List (Int × Int × Bool × List Int))
abbrev tyF := List (Int × List Int × Bool)
abbrev tyM := List (Int × Int × Bool × List Int)
abbrev tyW := List (Int × Bool)
abbrev tyT := List (Int × Int × Int × Bool × List Int)
abbrev iI : CT := .int .i64
abbrev i0 : AV := .int .i64 0
abbrev bN (r : RT) : AV := .bor none r []
abbrev Qe : List (Nat × List (Int × Nat) × Nat) := []
abbrev Le : List (Nat × Loops) := []
abbrev Ke : Cons := []
abbrev ap2 {a0 a1 r : Type} (f : a0 → a1 → r) (p : a0 × a1) : r := f p.1 p.2
abbrev ap3 {a0 a1 a2 r : Type} (f : a0 → a1 → a2 → r) (p : a0 × a1 × a2) : r := ap2 (f p.1) p.2
abbrev ap4 {a0 a1 a2 a3 r : Type} (f : a0 → a1 → a2 → a3 → r) (p : a0 × a1 × a2 × a3) : r := ap3 (f p.1) p.2
abbrev ap5 {a0 a1 a2 a3 a4 r : Type} (f : a0 → a1 → a2 → a3 → a4 → r) (p : a0 × a1 × a2 × a3 × a4) : r := ap4 (f p.1) p.2
abbrev ap6 {a0 a1 a2 a3 a4 a5 r : Type} (f : a0 → a1 → a2 → a3 → a4 → a5 → r) (p : a0 × a1 × a2 × a3 × a4 × a5) : r := ap5 (f p.1) p.2
abbrev ap7 {a0 a1 a2 a3 a4 a5 a6 r : Type} (f : a0 → a1 → a2 → a3 → a4 → a5 → a6 → r) (p : a0 × a1 × a2 × a3 × a4 × a5 × a6) : r := ap6 (f p.1) p.2
abbrev ap8 {a0 a1 a2 a3 a4 a5 a6 a7 r : Type} (f : a0 → a1 → a2 → a3 → a4 → a5 → a6 → a7 → r) (p : a0 × a1 × a2 × a3 × a4 × a5 × a6 × a7) : r := ap7 (f p.1) p.2
abbrev ap9 {a0 a1 a2 a3 a4 a5 a6 a7 a8 r : Type} (f : a0 → a1 → a2 → a3 → a4 → a5 → a6 → a7 → a8 → r) (p : a0 × a1 × a2 × a3 × a4 × a5 × a6 × a7 × a8) : r := ap8 (f p.1) p.2
abbrev ap10 {a0 a1 a2 a3 a4 a5 a6 a7 a8 a9 r : Type} (f : a0 → a1 → a2 → a3 → a4 → a5 → a6 → a7 → a8 → a9 → r) (p : a0 × a1 × a2 × a3 × a4 × a5 × a6 × a7 × a8 × a9) : r := ap9 (f p.1) p.2
abbrev ap11 {a0 a1 a2 a3 a4 a5 a6 a7 a8 a9 a10 r : Type} (f : a0 → a1 → a2 → a3 → a4 → a5 → a6 → a7 → a8 → a9 → a10 → r) (p : a0 × a1 × a2 × a3 × a4 × a5 × a6 × a7 × a8 × a9 × a10) : r := ap10 (f p.1) p.2
abbrev ap12 {a0 a1 a2 a3 a4 a5 a6 a7 a8 a9 a10 a11 r : Type} (f : a0 → a1 → a2 → a3 → a4 → a5 → a6 → a7 → a8 → a9 → a10 → a11 → r) (p : a0 × a1 × a2 × a3 × a4 × a5 × a6 × a7 × a8 × a9 × a10 × a11) : r := ap11 (f p.1) p.2
abbrev ap13 {a0 a1 a2 a3 a4 a5 a6 a7 a8 a9 a10 a11 a12 r : Type} (f : a0 → a1 → a2 → a3 → a4 → a5 → a6 → a7 → a8 → a9 → a10 → a11 → a12 → r) (p : a0 × a1 × a2 × a3 × a4 × a5 × a6 × a7 × a8 × a9 × a10 × a11 × a12) : r := ap12 (f p.1) p.2
abbrev ap14 {a0 a1 a2 a3 a4 a5 a6 a7 a8 a9 a10 a11 a12 a13 r : Type} (f : a0 → a1 → a2 → a3 → a4 → a5 → a6 → a7 → a8 → a9 → a10 → a11 → a12 → a13 → r) (p : a0 × a1 × a2 × a3 × a4 × a5 × a6 × a7 × a8 × a9 × a10 × a11 × a12 × a13) : r := ap13 (f p.1) p.2
abbrev ap15 {a0 a1 a2 a3 a4 a5 a6 a7 a8 a9 a10 a11 a12 a13 a14 r : Type} (f : a0 → a1 → a2 → a3 → a4 → a5 → a6 → a7 → a8 → a9 → a10 → a11 → a12 → a13 → a14 → r) (p : a0 × a1 × a2 × a3 × a4 × a5 × a6 × a7 × a8 × a9 × a10 × a11 × a12 × a13 × a14) : r := ap14 (f p.1) p.2
abbrev ap16 {a0 a1 a2 a3 a4 a5 a6 a7 a8 a9 a10 a11 a12 a13 a14 a15 r : Type} (f : a0 → a1 → a2 → a3 → a4 → a5 → a6 → a7 → a8 → a9 → a10 → a11 → a12 → a13 → a14 → a15 → r) (p : a0 × a1 × a2 × a3 × a4 × a5 × a6 × a7 × a8 × a9 × a10 × a11 × a12 × a13 × a14 × a15) : r := ap15 (f p.1) p.2
abbrev ap17 {a0 a1 a2 a3 a4 a5 a6 a7 a8 a9 a10 a11 a12 a13 a14 a15 a16 r : Type} (f : a0 → a1 → a2 → a3 → a4 → a5 → a6 → a7 → a8 → a9 → a10 → a11 → a12 → a13 → a14 → a15 → a16 → r) (p : a0 × a1 × a2 × a3 × a4 × a5 × a6 × a7 × a8 × a9 × a10 × a11 × a12 × a13 × a14 × a15 × a16) : r := ap16 (f p.1) p.2
abbrev ap18 {a0 a1 a2 a3 a4 a5 a6 a7 a8 a9 a10 a11 a12 a13 a14 a15 a16 a17 r : Type} (f : a0 → a1 → a2 → a3 → a4 → a5 → a6 → a7 → a8 → a9 → a10 → a11 → a12 → a13 → a14 → a15 → a16 → a17 → r) (p : a0 × a1 × a2 × a3 × a4 × a5 × a6 × a7 × a8 × a9 × a10 × a11 × a12 × a13 × a14 × a15 × a16 × a17) : r := ap17 (f p.1) p.2
abbrev ap19 {a0 a1 a2 a3 a4 a5 a6 a7 a8 a9 a10 a11 a12 a13 a14 a15 a16 a17 a18 r : Type} (f : a0 → a1 → a2 → a3 → a4 → a5 → a6 → a7 → a8 → a9 → a10 → a11 → a12 → a13 → a14 → a15 → a16 → a17 → a18 → r) (p : a0 × a1 × a2 × a3 × a4 × a5 × a6 × a7 × a8 × a9 × a10 × a11 × a12 × a13 × a14 × a15 × a16 × a17 × a18) : r := ap18 (f p.1) p.2
abbrev N : Nat := 1152921504606846976
abbrev R0 : RT := .one (.int .u8)
abbrev R1 : RT := .one (.int .i64)
abbrev R2 : RT := .one .bool
abbrev R3 : RT := .cons (.int .i64) (.one .bool)
abbrev R4 : RT := .cons (.int .i64) (.cons (.sl R1) (.one .bool))
abbrev R5 : RT := .cons (.sl R1) (.cons (.int .i64) (.cons (.sl R2) (.cons .bool (.cons (.int .i64) (.cons .bool (.cons (.int .i64) (.one (.sl R3))))))))
abbrev R6 : RT := .cons (.int .i64) (.cons (.int .i64) (.cons .bool (.one (.sl R1))))
abbrev R7 : RT := .cons (.int .i64) (.one (.sl R6))
abbrev R8 : RT := .cons (.int .i64) (.cons (.sl R4) (.cons (.sl R5) (.cons (.sl R7) (.one (.sl R1)))))
abbrev R9 : RT := .cons (.int .i64) (.cons (.int .i64) (.cons .bool (.cons (.int .i64) (.cons (.int .i64) (.cons (.int .i64) (.cons .bool (.one (.sl R1))))))))
abbrev R10 : RT := .cons (.int .i64) (.cons (.int .i64) (.cons (.int .i64) (.cons .bool (.one (.sl R1)))))
abbrev R11 : RT := .cons (.int .i64) (.cons (.int .i64) (.cons (.int .i64) (.one (.int .i64))))
noncomputable def tb : Tb := [(0, ⟨false, [], [], 0, 0⟩),
  (3, ⟨false, [(.int .i64)], [], 0, 8⟩),
  (4, ⟨false, [.bool], [], 0, 1⟩),
  (5, ⟨false, [(.int .u8)], [], 0, 1⟩),
  (22, ⟨false, [(.sl R0)], [], 5, 24⟩),
  (24, ⟨false, [(.sl R8)], [], 77, 24⟩),
  (25, ⟨false, [(.sl R9)], [], 81, 24⟩),
  (27, ⟨true, [(.int .i64), (.sl R8), (.sl R9)], [(0, 3), (1, 24), (2, 25)], 0, 56⟩),
  (28, ⟨false, [(.sl R11)], [], 38, 24⟩),
  (31, ⟨false, [(.sl R1)], [], 3, 24⟩),
  (38, ⟨true, [(.int .i64), (.int .i64), (.int .i64), (.int .i64)], [(0, 3), (1, 3), (2, 3), (3, 3)], 0, 32⟩),
  (39, ⟨false, [], [], 0, 0⟩),
  (41, ⟨false, [], [], 0, 0⟩),
  (45, ⟨false, [], [], 0, 0⟩),
  (64, ⟨false, [], [], 0, 8⟩),
  (66, ⟨false, [], [], 0, 0⟩),
  (72, ⟨false, [(.sl R4)], [], 96, 24⟩),
  (73, ⟨false, [(.sl R5)], [], 123, 24⟩),
  (74, ⟨false, [(.sl R7)], [], 101, 24⟩),
  (75, ⟨false, [(.sl R1)], [], 98, 24⟩),
  (77, ⟨true, [(.int .i64), (.sl R4), (.sl R5), (.sl R7), (.sl R1)], [(0, 3), (1, 72), (2, 73), (3, 74), (4, 75)], 0, 104⟩),
  (79, ⟨true, [(.int .i64), (.int .i64), .bool, (.sl R1)], [(0, 3), (1, 3), (2, 4), (3, 31)], 0, 48⟩),
  (81, ⟨true, [(.int .i64), (.int .i64), .bool, (.int .i64), (.int .i64), (.int .i64), .bool, (.sl R1)], [(0, 3), (1, 3), (2, 4), (3, 3), (4, 79)], 0, 80⟩),
  (89, ⟨false, [], [], 0, 8⟩),
  (91, ⟨false, [], [], 0, 0⟩),
  (96, ⟨true, [(.int .i64), (.sl R1), .bool], [(0, 3), (1, 31), (2, 4)], 0, 40⟩),
  (98, ⟨true, [(.int .i64)], [(0, 3)], 0, 8⟩),
  (99, ⟨false, [(.sl R6)], [], 79, 24⟩),
  (101, ⟨true, [(.int .i64), (.sl R6)], [(0, 3), (1, 99)], 0, 32⟩),
  (112, ⟨true, [(.sl R0), (.int .i64), (.int .i64)], [(0, 22), (1, 3), (2, 3)], 0, 40⟩),
  (118, ⟨false, [(.sl R2)], [], 4, 24⟩),
  (120, ⟨true, [(.int .i64), .bool], [(0, 3), (1, 4)], 0, 16⟩),
  (121, ⟨false, [(.sl R3)], [], 120, 24⟩),
  (123, ⟨true, [(.sl R1), (.int .i64), (.sl R2), .bool, (.int .i64), .bool, (.int .i64), (.sl R3)], [(0, 31), (1, 3), (2, 118), (3, 4), (4, 120), (6, 3), (7, 121)], 0, 112⟩),
  (132, ⟨false, [], [], 0, 8⟩),
  (135, ⟨false, [], [], 0, 8⟩),
  (137, ⟨false, [], [], 0, 8⟩),
  (139, ⟨false, [], [], 0, 8⟩),
  (140, ⟨false, [], [], 0, 8⟩),
  (142, ⟨false, [], [], 0, 8⟩),
  (171, ⟨false, [], [], 0, 8⟩),
  (172, ⟨false, [], [], 0, 0⟩),
  (178, ⟨false, [], [], 0, 0⟩),
  (184, ⟨false, [], [], 0, 8⟩),
  (209, ⟨false, [], [], 0, 8⟩),
  (211, ⟨false, [], [], 0, 0⟩),
  (215, ⟨false, [(.sl R10)], [], 250, 24⟩),
  (216, ⟨false, [], [], 0, 0⟩),
  (242, ⟨false, [], [], 0, 8⟩),
  (244, ⟨true, [(.sl R1), (.int .i64), (.sl R2), .bool, (.int .i64), .bool, (.int .i64), (.sl R3), (.int .i64), (.sl R10)], [(0, 123), (8, 3), (9, 215)], 0, 144⟩),
  (247, ⟨false, [], [], 0, 0⟩),
  (250, ⟨true, [(.int .i64), (.int .i64), (.int .i64), .bool, (.sl R1)], [(0, 3), (1, 79)], 0, 56⟩),
  (264, ⟨false, [], [], 0, 8⟩),
  (266, ⟨true, [(.sl R1), (.int .i64), (.sl R2), .bool, (.int .i64), .bool, (.int .i64), (.sl R3), (.int .i64), (.sl R10)], [(0, 123), (8, 3), (9, 215)], 0, 144⟩)]
noncomputable def fsL : List (Nat × Func) := [(7, Tryz.f7), (36, Tryz.f36), (108, Tryz.f108), (56, Tryz.f56), (47, Tryz.f47), (110, Tryz.f110), (58, Tryz.f58), (21, Tryz.f21), (85, Tryz.f85), (39, Tryz.f39), (46, Tryz.f46), (158, Tryz.f158), (104, Tryz.f104), (105, Tryz.f105), (107, Tryz.f107), (106, Tryz.f106), (54, Tryz.f54), (55, Tryz.f55), (18, Tryz.f18), (137, Tryz.f137), (138, Tryz.f138), (140, Tryz.f140), (139, Tryz.f139), (77, Tryz.f77), (78, Tryz.f78), (42, Tryz.f42), (189, Tryz.f189), (190, Tryz.f190), (231, Tryz.f231), (230, Tryz.f230), (212, Tryz.f212), (213, Tryz.f213), (188, Tryz.f188), (232, Tryz.f232), (214, Tryz.f214), (147, Tryz.f147), (215, Tryz.f215), (191, Tryz.f191), (144, Tryz.f144), (86, Tryz.f86), (145, Tryz.f145), (87, Tryz.f87), (146, Tryz.f146), (88, Tryz.f88), (48, Tryz.f48), (16, Tryz.f16), (37, Tryz.f37), (80, Tryz.f80), (84, Tryz.f84), (187, Tryz.f187), (141, Tryz.f141), (81, Tryz.f81), (142, Tryz.f142), (82, Tryz.f82), (143, Tryz.f143), (83, Tryz.f83), (44, Tryz.f44), (45, Tryz.f45), (14, Tryz.f14), (49, Tryz.f49), (89, Tryz.f89), (194, Tryz.f194), (193, Tryz.f193), (216, Tryz.f216), (192, Tryz.f192), (149, Tryz.f149), (92, Tryz.f92), (91, Tryz.f91), (148, Tryz.f148), (90, Tryz.f90), (152, Tryz.f152), (195, Tryz.f195), (151, Tryz.f151), (95, Tryz.f95), (94, Tryz.f94), (150, Tryz.f150), (93, Tryz.f93), (101, Tryz.f101), (157, Tryz.f157), (103, Tryz.f103), (155, Tryz.f155), (196, Tryz.f196), (154, Tryz.f154), (98, Tryz.f98), (97, Tryz.f97), (153, Tryz.f153), (96, Tryz.f96), (100, Tryz.f100), (156, Tryz.f156), (99, Tryz.f99), (50, Tryz.f50), (53, Tryz.f53), (52, Tryz.f52), (102, Tryz.f102), (51, Tryz.f51), (17, Tryz.f17), (75, Tryz.f75), (128, Tryz.f128), (111, Tryz.f111), (129, Tryz.f129), (180, Tryz.f180), (181, Tryz.f181), (130, Tryz.f130), (132, Tryz.f132), (131, Tryz.f131), (73, Tryz.f73), (74, Tryz.f74), (40, Tryz.f40), (133, Tryz.f133), (135, Tryz.f135), (182, Tryz.f182), (183, Tryz.f183), (233, Tryz.f233), (234, Tryz.f234), (228, Tryz.f228), (186, Tryz.f186), (210, Tryz.f210), (229, Tryz.f229), (211, Tryz.f211), (184, Tryz.f184), (134, Tryz.f134), (185, Tryz.f185), (136, Tryz.f136), (76, Tryz.f76), (41, Tryz.f41), (15, Tryz.f15), (11, Tryz.f11), (79, Tryz.f79), (43, Tryz.f43), (12, Tryz.f12), (19, Tryz.f19), (109, Tryz.f109), (57, Tryz.f57), (20, Tryz.f20), (112, Tryz.f112), (113, Tryz.f113), (59, Tryz.f59), (60, Tryz.f60), (61, Tryz.f61), (22, Tryz.f22), (4, Tryz.f4)]
noncomputable def fs : Nat → Option Func := getF fsL
theorem MIX : Tryz.prog.follows .mixedOrders = true := by kernel_rfl
theorem TY : tyCheck Tryz.prog tb = true := by kernel_rfl
theorem CAT : catCheck tb = true := by kernel_rfl
theorem FSP : FsP Tryz.prog fsL := ⟨Tryz.func7, Tryz.func36, Tryz.func108, Tryz.func56, Tryz.func47, Tryz.func110, Tryz.func58, Tryz.func21, Tryz.func85, Tryz.func39, Tryz.func46, Tryz.func158, Tryz.func104, Tryz.func105, Tryz.func107, Tryz.func106, Tryz.func54, Tryz.func55, Tryz.func18, Tryz.func137, Tryz.func138, Tryz.func140, Tryz.func139, Tryz.func77, Tryz.func78, Tryz.func42, Tryz.func189, Tryz.func190, Tryz.func231, Tryz.func230, Tryz.func212, Tryz.func213, Tryz.func188, Tryz.func232, Tryz.func214, Tryz.func147, Tryz.func215, Tryz.func191, Tryz.func144, Tryz.func86, Tryz.func145, Tryz.func87, Tryz.func146, Tryz.func88, Tryz.func48, Tryz.func16, Tryz.func37, Tryz.func80, Tryz.func84, Tryz.func187, Tryz.func141, Tryz.func81, Tryz.func142, Tryz.func82, Tryz.func143, Tryz.func83, Tryz.func44, Tryz.func45, Tryz.func14, Tryz.func49, Tryz.func89, Tryz.func194, Tryz.func193, Tryz.func216, Tryz.func192, Tryz.func149, Tryz.func92, Tryz.func91, Tryz.func148, Tryz.func90, Tryz.func152, Tryz.func195, Tryz.func151, Tryz.func95, Tryz.func94, Tryz.func150, Tryz.func93, Tryz.func101, Tryz.func157, Tryz.func103, Tryz.func155, Tryz.func196, Tryz.func154, Tryz.func98, Tryz.func97, Tryz.func153, Tryz.func96, Tryz.func100, Tryz.func156, Tryz.func99, Tryz.func50, Tryz.func53, Tryz.func52, Tryz.func102, Tryz.func51, Tryz.func17, Tryz.func75, Tryz.func128, Tryz.func111, Tryz.func129, Tryz.func180, Tryz.func181, Tryz.func130, Tryz.func132, Tryz.func131, Tryz.func73, Tryz.func74, Tryz.func40, Tryz.func133, Tryz.func135, Tryz.func182, Tryz.func183, Tryz.func233, Tryz.func234, Tryz.func228, Tryz.func186, Tryz.func210, Tryz.func229, Tryz.func211, Tryz.func184, Tryz.func134, Tryz.func185, Tryz.func136, Tryz.func76, Tryz.func41, Tryz.func15, Tryz.func11, Tryz.func79, Tryz.func43, Tryz.func12, Tryz.func19, Tryz.func109, Tryz.func57, Tryz.func20, Tryz.func112, Tryz.func113, Tryz.func59, Tryz.func60, Tryz.func61, Tryz.func22, Tryz.func4, trivial⟩
theorem FSC : (fsL.all fun p => fnChk p.2) = true := by kernel_rfl
theorem FS : FsS Tryz.prog fs := FsS.of FSP FSC
noncomputable def f_laws_big (x0 : List Int) : Option (Bool) :=
 some (decide ((1048576 : Int) < (x0.length : Int)))
noncomputable def C7 : Con := ⟨[(.B, false, [(.sl R0)])], [(false, [.bool])], [(.sl R0)], [.bool], fun (p : List Int) => f_laws_big p⟩
noncomputable abbrev X7 : Nat → Ctx := ctxOf tb Ke Le Qe
theorem E7 : ∀ x, funRun fs X7 6 7 C7 x = C7.fn x := fun x => by kernel_rfl
theorem B7 : ConB Tryz.prog 7 C7 := ConB.make FS MIX TY (cons := Ke) (L := Le) (ptrs := Qe) trivial trivial trivial rfl rfl E7
theorem S7 : ConS Tryz.prog 7 C7 := B7.call rfl
noncomputable def f_spec_l1Byte (x0 : List Int) (x1 : Int) (x2 : Int) : Option (Int × Int × Int) :=
 bif (decide (x1 < (x0.length : Int))) then
 bif ((decide ((0 : Int) ≤ x1)) && (decide (x1 < (x0.length : Int)))) then
 some ((bitI .and .i64 (IntKind.wrap .i64 ((bitI .and .i64 (bitI .xor .i64 (shrI .i64 (IntKind.wrap .i64 ((IntKind.wrap .i64 (x2 * (6364136223846793005 : Int))) + (1442695040888963407 : Int))) (33 : Int)) (shrI .i64 (IntKind.wrap .i64 ((IntKind.wrap .i64 (x2 * (6364136223846793005 : Int))) + (1442695040888963407 : Int))) (45 : Int))) (255 : Int)) + (IntKind.wrap .i64 ((x0.getD x1.toNat 0))))) (255 : Int)), (IntKind.wrap .i64 (x1 + (1 : Int))), (IntKind.wrap .i64 ((IntKind.wrap .i64 (x2 * (6364136223846793005 : Int))) + (1442695040888963407 : Int))))
 else none
 else
 some ((bitI .and .i64 (bitI .xor .i64 (shrI .i64 (IntKind.wrap .i64 ((IntKind.wrap .i64 (x2 * (6364136223846793005 : Int))) + (1442695040888963407 : Int))) (33 : Int)) (shrI .i64 (IntKind.wrap .i64 ((IntKind.wrap .i64 (x2 * (6364136223846793005 : Int))) + (1442695040888963407 : Int))) (45 : Int))) (255 : Int)), x1, (IntKind.wrap .i64 ((IntKind.wrap .i64 (x2 * (6364136223846793005 : Int))) + (1442695040888963407 : Int))))
noncomputable def C108 : Con := ⟨[(.P [false, true, true], false, [(.sl R0), iI, iI])], [(false, [iI])], [(.sl R0), iI, iI], [iI, iI, iI], ap3 f_spec_l1Byte⟩
noncomputable abbrev X108 : Nat → Ctx := ctxOf tb Ke Le Qe
theorem E108 : ∀ x, funG fs X108 6 108 C108 x = C108.fn x := fun x => by kernel_rfl
theorem B108 : ConG Tryz.prog 108 C108 := ConG.make FS MIX TY (cons := Ke) (L := Le) (ptrs := Qe) trivial trivial trivial rfl (by kernel_rfl) E108
theorem S108 : ConS Tryz.prog 108 C108 := B108.call (by kernel_rfl)
noncomputable def f_spec_l1Below (x0 : List Int) (x1 : Int) (x2 : Int) (x3 : Int) : Option (Int × Int × Int) :=
 bif (decide (x3 ≤ (0 : Int))) then
 some (0, x1, x2)
 else
 bif (decide (x3 ≤ (256 : Int))) then
 (f_spec_l1Byte x0 x1 x2).bind fun y0 =>
 bif (decide (x3 = (0 : Int))) then none else
 some ((Int.tmod y0.1 x3), y0.2.1, y0.2.2)
 else
 (f_spec_l1Byte x0 x1 x2).bind fun y1 =>
 (f_spec_l1Byte x0 y1.2.1 y1.2.2).bind fun y2 =>
 (f_spec_l1Byte x0 y2.2.1 y2.2.2).bind fun y3 =>
 (f_spec_l1Byte x0 y3.2.1 y3.2.2).bind fun y4 =>
 bif (decide (x3 = (0 : Int))) then none else
 some ((Int.tmod (IntKind.wrap .i64 ((IntKind.wrap .i64 ((IntKind.wrap .i64 ((IntKind.wrap .i64 (y1.1 * (16777216 : Int))) + (IntKind.wrap .i64 (y2.1 * (65536 : Int))))) + (IntKind.wrap .i64 (y3.1 * (256 : Int))))) + y4.1)) x3), y4.2.1, y4.2.2)
noncomputable def C56 : Con := ⟨[(.P [false, true, true], false, [(.sl R0), iI, iI]), (.B, false, [iI])], [(false, [iI])], [(.sl R0), iI, iI, iI], [iI, iI, iI], ap4 f_spec_l1Below⟩
noncomputable abbrev K56 : Cons := [(108, C108)]
noncomputable abbrev X56 : Nat → Ctx := ctxOf tb K56 Le Qe
theorem E56 : ∀ x, funG fs X56 6 56 C56 x = C56.fn x := fun x => by kernel_rfl
theorem B56 : ConG Tryz.prog 56 C56 := ConG.make FS MIX TY (cons := K56) (L := Le) (ptrs := Qe) ⟨S108, trivial⟩ trivial trivial rfl (by kernel_rfl) E56
theorem S56 : ConS Tryz.prog 56 C56 := B56.call (by kernel_rfl)
noncomputable def f_spec_l1In (x0 : Int) (x1 : Int) (x2 : Int) : Option (Bool) :=
 bif (decide (x1 ≤ x0)) then
 some (decide (x0 ≤ x2))
 else
 some false
noncomputable def C47 : Con := ⟨[(.B, false, [iI]), (.B, false, [iI]), (.B, false, [iI])], [(false, [.bool])], [iI, iI, iI], [.bool], ap3 f_spec_l1In⟩
noncomputable abbrev X47 : Nat → Ctx := ctxOf tb Ke Le Qe
theorem E47 : ∀ x, funRun fs X47 6 47 C47 x = C47.fn x := fun x => by kernel_rfl
theorem B47 : ConB Tryz.prog 47 C47 := ConB.make FS MIX TY (cons := Ke) (L := Le) (ptrs := Qe) trivial trivial trivial rfl rfl E47
theorem S47 : ConS Tryz.prog 47 C47 := B47.call rfl
noncomputable def f_spec_HomeNew (x0 : Int) : Option (List Int × Int × List Bool × Bool × Int × Bool × Int × tyW) :=
 (f_spec_l1In x0 1 4).bind fun y0 =>
 bif (!y0) then
 some ([], 0, [], false, 0, false, 0, [])
 else
 bif (decide ((0 : Int) ≤ x0) && Nat.ble x0.toNat 140737488355328) then
 some ((List.replicate 4 0), -1, (List.replicate x0.toNat false), false, 0, false, 0, [])
 else none
noncomputable def C110 : Con := ⟨[(.B, false, [iI])], [(true, [(.sl R1), iI, (.sl R2), .bool, iI, .bool, iI, (.sl R3)])], [iI], [(.sl R1), iI, (.sl R2), .bool, iI, .bool, iI, (.sl R3)], fun (p : Int) => f_spec_HomeNew p⟩
noncomputable abbrev K110 : Cons := [(47, C47)]
noncomputable abbrev X110 : Nat → Ctx := ctxOf tb K110 Le Qe
theorem E110 : ∀ x, funRun fs X110 6 110 C110 x = C110.fn x := fun x => by kernel_rfl
theorem B110 : ConB Tryz.prog 110 C110 := ConB.make FS MIX TY (cons := K110) (L := Le) (ptrs := Qe) ⟨S47, trivial⟩ trivial trivial rfl rfl E110
theorem S110 : ConS Tryz.prog 110 C110 := B110.call rfl
noncomputable def f_spec_NodeNew.l0 : Nat → Int → Bool → Int → Int → Int → tyF → tyH → tyS → (List Int) → tyF → tyH → tyS → (List Int) → Option (Bool × Int × Int × tyF × tyH × tyS × List Int × tyF × tyH × tyS × List Int)
 | 0, _, _, _, _, _, _, _, _, _, _, _, _, _ => none
 | n + 1, p0, p1, p2, p3, p4, p5, p6, p7, p8, p9, p10, p11, p12 =>
 bif (decide (p2 < (6 : Int))) then
 (f_spec_HomeNew p0).bind fun y13 =>
 bif (Nat.blt (p10.length + ([(y13.1, y13.2.1, y13.2.2.1, y13.2.2.2.1, y13.2.2.2.2.1, y13.2.2.2.2.2.1, y13.2.2.2.2.2.2.1, y13.2.2.2.2.2.2.2)] : tyH).length) 1256584717458) then
 (some ((p10 ++ ([(y13.1, y13.2.1, y13.2.2.1, y13.2.2.2.1, y13.2.2.2.2.1, y13.2.2.2.2.2.1, y13.2.2.2.2.2.2.1, y13.2.2.2.2.2.2.2)] : tyH)) : tyH)).bind fun z14 =>
 f_spec_NodeNew.l0 n p0 p1 (IntKind.wrap .i64 (p2 + (1 : Int))) p3 p4 p5 p6 p7 p8 p9 z14 p11 p12
 else none
 else
 some (p1, p3, p4, p5, p6, p7, p8, p9, p10, p11, p12)
noncomputable def f_spec_NodeNew (x0 : Int) (x1 : Int) : Option (Int × tyF × tyH × tyS × List Int × Bool) :=
 (f_spec_l1In x1 1 4).bind fun y0 =>
 bif (!y0) then
 some (0, [], [], [], [], false)
 else
 (f_spec_l1In x0 0 (IntKind.wrap .i64 (x1 - (1 : Int)))).bind fun y1 =>
 bif (!y1) then
 some (0, [], [], [], [], false)
 else
 bif (decide ((0 : Int) ≤ x1) && Nat.ble x1.toNat 4398046511104) then
 bif (decide ((0 : Int) ≤ x1) && Nat.ble x1.toNat 17592186044416) then
 (f_spec_NodeNew.l0 N x1 false 0 0 x0 ([] : tyF) ([] : tyH) ([] : tyS) ([] : List Int) (List.replicate 6 (0, [], false)) ([] : tyH) (List.replicate x1.toNat (0, [])) (List.replicate x1.toNat 0)).bind fun r2 =>
 some (r2.2.2.1, r2.2.2.2.2.2.2.2.1, r2.2.2.2.2.2.2.2.2.1, r2.2.2.2.2.2.2.2.2.2.1, r2.2.2.2.2.2.2.2.2.2.2, true)
 else none
 else none
noncomputable def C58 : Con := ⟨[(.B, false, [iI]), (.B, false, [iI])], [(true, [iI, (.sl R4), (.sl R5), (.sl R7), (.sl R1)]), (false, [.bool])], [iI, iI], [iI, (.sl R4), (.sl R5), (.sl R7), (.sl R1), .bool], ap2 f_spec_NodeNew⟩
noncomputable abbrev f_spec_NodeNew.l0.u (n : Nat) := ap13 (f_spec_NodeNew.l0 n)
noncomputable def f_spec_NodeNew.l0.c : LoopCon := ⟨1000, 6, [1, 4, 5, 6, 7], ⟨[(1, i0), (4, .ptr 1000 0), (5, .bool false), (6, .ptr 1001 0), (7, i0)], [(1000, .box [i0, .ref 1002 [] none, .ref 1003 [] none, .ref 1004 [] none, .ref 1005 [] none]), (1001, .box [i0, .ref 1006 [] none, .ref 1007 [] none, .ref 1008 [] none, .ref 1009 [] none]), (1002, .row R4 []), (1003, .row R5 []), (1004, .row R7 []), (1005, .row R1 []), (1006, .row R4 []), (1007, .row R5 []), (1008, .row R7 []), (1009, .row R1 [])], 1010⟩, [iI, .bool, iI, iI, iI, (.sl R4), (.sl R5), (.sl R7), (.sl R1), (.sl R4), (.sl R5), (.sl R7), (.sl R1)], [⟨.exit 0, [4, 5, 6], ⟨[(4, .ptr 1000 0), (5, .bool false), (6, .ptr 1001 0)], [(1000, .box [i0, .ref 1002 [] none, .ref 1003 [] none, .ref 1004 [] none, .ref 1005 [] none]), (1001, .box [i0, .ref 1006 [] none, .ref 1007 [] none, .ref 1008 [] none, .ref 1009 [] none]), (1002, .row R4 []), (1003, .row R5 []), (1004, .row R7 []), (1005, .row R1 []), (1006, .row R4 []), (1007, .row R5 []), (1008, .row R7 []), (1009, .row R1 [])], 1010⟩, [.bool, iI, iI, (.sl R4), (.sl R5), (.sl R7), (.sl R1), (.sl R4), (.sl R5), (.sl R7), (.sl R1)]⟩], f_spec_NodeNew.l0.u N⟩
noncomputable abbrev K58 : Cons := [(47, C47), (110, C110)]
noncomputable abbrev L58 : List (Nat × Loops) := [(58, [(5, f_spec_NodeNew.l0.c)])]
noncomputable abbrev X58 : Nat → Ctx := ctxOf tb K58 L58 Qe
theorem f_spec_NodeNew.l0.ok : ∀ n p, f_spec_NodeNew.l0.u n p = iterD (roundOf fs X58 6 58 5 false f_spec_NodeNew.l0.c) n p :=
 iter_of (l := f_spec_NodeNew.l0.u) (fun _ => rfl) (fun n p => by kernel_rfl)
theorem E58 : ∀ x, funRun fs X58 6 58 C58 x = C58.fn x := fun x => by kernel_rfl
theorem B58 : ConB Tryz.prog 58 C58 := ConB.make FS MIX TY (cons := K58) (L := L58) (ptrs := Qe) ⟨S47, S110, trivial⟩ trivial ⟨⟨⟨N, fun p => f_spec_NodeNew.l0.ok N p⟩, trivial⟩, trivial⟩ rfl rfl E58
theorem S58 : ConS Tryz.prog 58 C58 := B58.call rfl
noncomputable def f_spec_WorldNew.l0 : Nat → Int → Bool → Int → Int → Int → tyN → tyP → tyN → tyP → Option (Bool × Int × Int × tyN × tyP × tyN × tyP)
 | 0, _, _, _, _, _, _, _, _, _ => none
 | n + 1, p0, p1, p2, p3, p4, p5, p6, p7, p8 =>
 bif (decide (p2 < p0)) then
 (f_spec_NodeNew p2 p0).bind fun y9 =>
 bif (Nat.blt (p7.length + ([(y9.1, y9.2.1, y9.2.2.1, y9.2.2.2.1, y9.2.2.2.2.1)] : tyN).length) 1353245080339) then
 (some ((p7 ++ ([(y9.1, y9.2.1, y9.2.2.1, y9.2.2.2.1, y9.2.2.2.2.1)] : tyN)) : tyN)).bind fun z10 =>
 f_spec_WorldNew.l0 n p0 p1 (IntKind.wrap .i64 (p2 + (1 : Int))) p3 p4 p5 p6 z10 p8
 else none
 else
 some (p1, p3, p4, p5, p6, p7, p8)
noncomputable def f_spec_WorldNew (x0 : Int) : Option (Int × tyN × tyP × Bool) :=
 (f_spec_l1In x0 1 4).bind fun y0 =>
 bif (!y0) then
 some (0, [], [], false)
 else
 (f_spec_WorldNew.l0 N x0 false 0 0 x0 ([] : tyN) ([] : tyP) ([] : tyN) ([] : tyP)).bind fun r1 =>
 some (r1.2.2.1, r1.2.2.2.2.2.1, r1.2.2.2.2.2.2, true)
noncomputable def C21 : Con := ⟨[(.B, false, [iI])], [(true, [iI, (.sl R8), (.sl R9)]), (false, [.bool])], [iI], [iI, (.sl R8), (.sl R9), .bool], fun (p : Int) => f_spec_WorldNew p⟩
noncomputable abbrev f_spec_WorldNew.l0.u (n : Nat) := ap9 (f_spec_WorldNew.l0 n)
noncomputable def f_spec_WorldNew.l0.c : LoopCon := ⟨1000, 6, [0, 2, 3, 4, 5], ⟨[(0, i0), (2, .ptr 1000 0), (3, .bool false), (4, .ptr 1001 0), (5, i0)], [(1000, .box [i0, .ref 1002 [] none, .ref 1003 [] none]), (1001, .box [i0, .ref 1004 [] none, .ref 1005 [] none]), (1002, .row R8 []), (1003, .row R9 []), (1004, .row R8 []), (1005, .row R9 [])], 1006⟩, [iI, .bool, iI, iI, iI, (.sl R8), (.sl R9), (.sl R8), (.sl R9)], [⟨.exit 0, [2, 3, 4], ⟨[(2, .ptr 1000 0), (3, .bool false), (4, .ptr 1001 0)], [(1000, .box [i0, .ref 1002 [] none, .ref 1003 [] none]), (1001, .box [i0, .ref 1004 [] none, .ref 1005 [] none]), (1002, .row R8 []), (1003, .row R9 []), (1004, .row R8 []), (1005, .row R9 [])], 1006⟩, [.bool, iI, iI, (.sl R8), (.sl R9), (.sl R8), (.sl R9)]⟩], f_spec_WorldNew.l0.u N⟩
noncomputable abbrev K21 : Cons := [(47, C47), (58, C58)]
noncomputable abbrev L21 : List (Nat × Loops) := [(21, [(5, f_spec_WorldNew.l0.c)])]
noncomputable abbrev X21 : Nat → Ctx := ctxOf tb K21 L21 Qe
theorem f_spec_WorldNew.l0.ok : ∀ n p, f_spec_WorldNew.l0.u n p = iterD (roundOf fs X21 6 21 5 false f_spec_WorldNew.l0.c) n p :=
 iter_of (l := f_spec_WorldNew.l0.u) (fun _ => rfl) (fun n p => by kernel_rfl)
theorem E21 : ∀ x, funRun fs X21 6 21 C21 x = C21.fn x := fun x => by kernel_rfl
theorem B21 : ConB Tryz.prog 21 C21 := ConB.make FS MIX TY (cons := K21) (L := L21) (ptrs := Qe) ⟨S47, S58, trivial⟩ trivial ⟨⟨⟨N, fun p => f_spec_WorldNew.l0.ok N p⟩, trivial⟩, trivial⟩ rfl rfl E21
theorem S21 : ConS Tryz.prog 21 C21 := B21.call rfl
noncomputable def f_spec_l1Max (x0 : Int) (x1 : Int) : Option (Int) :=
 bif (decide (x1 < x0)) then
 some x0
 else
 some x1
noncomputable def C85 : Con := ⟨[(.B, false, [iI]), (.B, false, [iI])], [(false, [iI])], [iI, iI], [iI], ap2 f_spec_l1Max⟩
noncomputable abbrev X85 : Nat → Ctx := ctxOf tb Ke Le Qe
theorem E85 : ∀ x, funRun fs X85 6 85 C85 x = C85.fn x := fun x => by kernel_rfl
theorem B85 : ConB Tryz.prog 85 C85 := ConB.make FS MIX TY (cons := Ke) (L := Le) (ptrs := Qe) trivial trivial trivial rfl rfl E85
theorem S85 : ConS Tryz.prog 85 C85 := B85.call rfl
noncomputable def f_spec_l1Once (x0 : List Int) (x1 : Int) (x2 : Int) (x3 : Int) : Option (Bool × Int × Int) :=
 (f_spec_l1Below x0 x1 x2 x3).bind fun y0 =>
 some ((decide (y0.1 = (0 : Int))), y0.2.1, y0.2.2)
noncomputable def C39 : Con := ⟨[(.P [false, true, true], false, [(.sl R0), iI, iI]), (.B, false, [iI])], [(false, [.bool])], [(.sl R0), iI, iI, iI], [.bool, iI, iI], ap4 f_spec_l1Once⟩
noncomputable abbrev K39 : Cons := [(56, C56)]
noncomputable abbrev X39 : Nat → Ctx := ctxOf tb K39 Le Qe
theorem E39 : ∀ x, funG fs X39 6 39 C39 x = C39.fn x := fun x => by kernel_rfl
theorem B39 : ConG Tryz.prog 39 C39 := ConG.make FS MIX TY (cons := K39) (L := Le) (ptrs := Qe) ⟨S56, trivial⟩ trivial trivial rfl (by kernel_rfl) E39
theorem S39 : ConS Tryz.prog 39 C39 := B39.call (by kernel_rfl)
noncomputable def f_spec_l6DrawDeed.l0 : Nat → Int → Int → Int → (List Int) → Int → Int → Int → tyN → tyP → Int → Int → Int → Int → Option ((List Int × Int × Int × Int × Int × Int × Int) ⊕ (List Int × Int × Int × Int × Int × Int × Int))
 | 0, _, _, _, _, _, _, _, _, _, _, _, _, _ => none
 | n + 1, p0, p1, p2, p3, p4, p5, p6, p7, p8, p9, p10, p11, p12 =>
 bif (decide (p2 < (4 : Int))) then
 (f_spec_l1Below p3 p4 p5 p0).bind fun y13 =>
 bif (decide (p1 < (p7.length : Int))) then
 bif ((decide ((0 : Int) ≤ p1)) && (decide (p1 < (p7.length : Int)))) then
 bif (decide (y13.1 < (((p7.getD p1.toNat (0, [], [], [], [])).2.2.2.1).length : Int))) then
 bif ((decide ((0 : Int) ≤ p1)) && (decide (p1 < (p7.length : Int)))) then
 bif ((decide ((0 : Int) ≤ y13.1)) && (decide (y13.1 < (((p7.getD p1.toNat (0, [], [], [], [])).2.2.2.1).length : Int)))) then
 bif (decide ((0 : Int) < (((((p7.getD p1.toNat (0, [], [], [], [])).2.2.2.1).getD y13.1.toNat (0, [])).2).length : Int))) then
 bif ((decide ((0 : Int) ≤ p1)) && (decide (p1 < (p7.length : Int)))) then
 bif ((decide ((0 : Int) ≤ y13.1)) && (decide (y13.1 < (((p7.getD p1.toNat (0, [], [], [], [])).2.2.2.1).length : Int)))) then
 (f_spec_l1Below p3 y13.2.1 y13.2.2 (((((p7.getD p1.toNat (0, [], [], [], [])).2.2.2.1).getD y13.1.toNat (0, [])).2).length : Int)).bind fun y14 =>
 some (.inl (p3, y14.2.1, y14.2.2, 1, p1, y13.1, y14.1))
 else none
 else none
 else
 (f_spec_l1Below p3 y13.2.1 y13.2.2 p0).bind fun y15 =>
 f_spec_l6DrawDeed.l0 n p0 y15.1 (IntKind.wrap .i64 (p2 + (1 : Int))) p3 y15.2.1 y15.2.2 p6 p7 p8 p9 p10 p11 p12
 else none
 else none
 else
 (f_spec_l1Below p3 y13.2.1 y13.2.2 p0).bind fun y16 =>
 f_spec_l6DrawDeed.l0 n p0 y16.1 (IntKind.wrap .i64 (p2 + (1 : Int))) p3 y16.2.1 y16.2.2 p6 p7 p8 p9 p10 p11 p12
 else none
 else
 (f_spec_l1Below p3 y13.2.1 y13.2.2 p0).bind fun y17 =>
 f_spec_l6DrawDeed.l0 n p0 y17.1 (IntKind.wrap .i64 (p2 + (1 : Int))) p3 y17.2.1 y17.2.2 p6 p7 p8 p9 p10 p11 p12
 else
 some (.inr (p3, p4, p5, p9, p10, p11, p12))
noncomputable def f_spec_l6DrawDeed (x0 : List Int) (x1 : Int) (x2 : Int) (x3 : Int) (x4 : tyN) (x5 : tyP) : Option (Int × Int × Int × Int × Int × Int) :=
 (f_spec_l1Max x3 1).bind fun y0 =>
 (f_spec_l1Below x0 x1 x2 y0).bind fun y1 =>
 (f_spec_l1Below x0 y1.2.1 y1.2.2 12).bind fun y2 =>
 bif (decide (y2.1 = (0 : Int))) then
 (f_spec_l1Below x0 y2.2.1 y2.2.2 3).bind fun y3 =>
 (f_spec_l1Below x0 y3.2.1 y3.2.2 2).bind fun y4 =>
 some (6, y1.1, y3.1, y4.1, y4.2.1, y4.2.2)
 else
 bif (decide (y2.1 = (1 : Int))) then
 (f_spec_l1Below x0 y2.2.1 y2.2.2 3).bind fun y5 =>
 (f_spec_l1Below x0 y5.2.1 y5.2.2 2).bind fun y6 =>
 some (6, y1.1, y5.1, y6.1, y6.2.1, y6.2.2)
 else
 bif (decide (y2.1 = (2 : Int))) then
 (f_spec_l1Below x0 y2.2.1 y2.2.2 3).bind fun y7 =>
 (f_spec_l1Below x0 y7.2.1 y7.2.2 2).bind fun y8 =>
 some (6, y1.1, y7.1, y8.1, y8.2.1, y8.2.2)
 else
 bif (decide (y2.1 = (3 : Int))) then
 (f_spec_l1Below x0 y2.2.1 y2.2.2 y0).bind fun y9 =>
 some (2, y1.1, y9.1, 0, y9.2.1, y9.2.2)
 else
 bif (decide (y2.1 = (4 : Int))) then
 (f_spec_l1Once x0 y2.2.1 y2.2.2 2).bind fun y10 =>
 bif y10.1 then
 (f_spec_l1Max (x5.length : Int) 1).bind fun y11 =>
 (f_spec_l1Below x0 y10.2.1 y10.2.2 y11).bind fun y12 =>
 some (4, y12.1, 0, 0, y12.2.1, y12.2.2)
 else
 (f_spec_l1Max (x5.length : Int) 1).bind fun y13 =>
 (f_spec_l1Below x0 y10.2.1 y10.2.2 y13).bind fun y14 =>
 some (5, y14.1, 0, 0, y14.2.1, y14.2.2)
 else
 bif (decide (y2.1 = (5 : Int))) then
 (f_spec_l1Max (x5.length : Int) 1).bind fun y15 =>
 (f_spec_l1Below x0 y2.2.1 y2.2.2 y15).bind fun y16 =>
 some (3, y16.1, 0, 0, y16.2.1, y16.2.2)
 else
 bif (decide (y2.1 = (6 : Int))) then
 (f_spec_l1Max (x5.length : Int) 1).bind fun y17 =>
 (f_spec_l1Below x0 y2.2.1 y2.2.2 y17).bind fun y18 =>
 some (3, y18.1, 0, 0, y18.2.1, y18.2.2)
 else
 bif (decide (y2.1 = (7 : Int))) then
 (f_spec_l1Max (x5.length : Int) 1).bind fun y19 =>
 (f_spec_l1Below x0 y2.2.1 y2.2.2 y19).bind fun y20 =>
 some (3, y20.1, 0, 0, y20.2.1, y20.2.2)
 else
 bif (decide (y2.1 = (8 : Int))) then
 (f_spec_l1Max (x5.length : Int) 1).bind fun y21 =>
 (f_spec_l1Below x0 y2.2.1 y2.2.2 y21).bind fun y22 =>
 some (3, y22.1, 0, 0, y22.2.1, y22.2.2)
 else
 (f_spec_l6DrawDeed.l0 N y0 y1.1 0 x0 y2.2.1 y2.2.2 x3 x4 x5 0 0 0 0).bind fun r23 =>
 cs r23 (fun a24 =>
 some (a24.2.2.2.1, a24.2.2.2.2.1, a24.2.2.2.2.2.1, a24.2.2.2.2.2.2, a24.2.1, a24.2.2.1)) (fun b25 =>
 some (3, 0, 0, 0, b25.2.1, b25.2.2.1))
noncomputable def C46 : Con := ⟨[(.P [false, true, true], false, [(.sl R0), iI, iI]), (.B, true, [iI, (.sl R8), (.sl R9)])], [(true, [iI, iI, iI, iI])], [(.sl R0), iI, iI, iI, (.sl R8), (.sl R9)], [iI, iI, iI, iI, iI, iI], ap6 f_spec_l6DrawDeed⟩
noncomputable abbrev f_spec_l6DrawDeed.l0.u (n : Nat) := ap13 (f_spec_l6DrawDeed.l0 n)
noncomputable def f_spec_l6DrawDeed.l0.c : LoopCon := ⟨1000, 6, [0, 3, 4, 5, 6, 7], ⟨[(0, .ptr 500 0), (3, .ptr 1000 0), (4, .ptr 1001 0), (5, i0), (6, i0), (7, i0)], [(500, .box [.bor (some 0) R0 [], i0, i0]), (1000, .box [i0, bN R8, bN R9]), (1001, .box [i0, i0, i0, i0])], 1002⟩, [iI, iI, iI, (.sl R0), iI, iI, iI, (.sl R8), (.sl R9), iI, iI, iI, iI], [⟨.ret, [4], ⟨[(4, .ptr 1000 0)], [(500, .box [.bor (some 0) R0 [], i0, i0]), (1000, .box [i0, i0, i0, i0])], 1001⟩, [(.sl R0), iI, iI, iI, iI, iI, iI]⟩, ⟨.exit 1, [4], ⟨[(4, .ptr 1000 0)], [(500, .box [.bor (some 0) R0 [], i0, i0]), (1000, .box [i0, i0, i0, i0])], 1001⟩, [(.sl R0), iI, iI, iI, iI, iI, iI]⟩], f_spec_l6DrawDeed.l0.u N⟩
noncomputable abbrev K46 : Cons := [(39, C39), (56, C56), (85, C85)]
noncomputable abbrev L46 : List (Nat × Loops) := [(46, [(20, f_spec_l6DrawDeed.l0.c)])]
noncomputable abbrev X46 : Nat → Ctx := ctxOf tb K46 L46 Qe
theorem f_spec_l6DrawDeed.l0.ok : ∀ n p, f_spec_l6DrawDeed.l0.u n p = iterD (roundOf fs X46 6 46 20 false f_spec_l6DrawDeed.l0.c) n p :=
 iter_of (l := f_spec_l6DrawDeed.l0.u) (fun _ => rfl) (fun n p => by kernel_rfl)
theorem E46 : ∀ x, funG fs X46 6 46 C46 x = C46.fn x := fun x => by kernel_rfl
theorem B46 : ConG Tryz.prog 46 C46 := ConG.make FS MIX TY (cons := K46) (L := L46) (ptrs := Qe) ⟨S39, S56, S85, trivial⟩ trivial ⟨⟨⟨N, fun p => f_spec_l6DrawDeed.l0.ok N p⟩, trivial⟩, trivial⟩ rfl (by kernel_rfl) E46
theorem S46 : ConS Tryz.prog 46 C46 := B46.call (by kernel_rfl)
noncomputable def f_spec_l1Words.l0 : Nat → (List Int) → Int → Bool → Int → Option ((Bool) ⊕ (List Int × Int × Bool))
 | 0, _, _, _, _ => none
 | n + 1, p0, p1, p2, p3 =>
 bif (decide (p3 < (p0.length : Int))) then
 bif ((decide ((0 : Int) ≤ p3)) && (decide (p3 < (p0.length : Int)))) then
 (f_spec_l1In (p0.getD p3.toNat 0) 0 65535).bind fun y4 =>
 bif (!y4) then
 some (.inl false)
 else
 f_spec_l1Words.l0 n p0 p1 p2 (IntKind.wrap .i64 (p3 + (1 : Int)))
 else none
 else
 some (.inr (p0, p1, p2))
noncomputable def f_spec_l1Words (x0 : List Int) (x1 : Int) : Option (Bool) :=
 (f_spec_l1Words.l0 N x0 x1 false 0).bind fun r0 =>
 cs r0 (fun a1 =>
 some a1) (fun b2 =>
 some (decide ((b2.1.length : Int) = b2.2.1)))
noncomputable def C158 : Con := ⟨[(.B, false, [(.sl R1)]), (.B, false, [iI])], [(false, [.bool])], [(.sl R1), iI], [.bool], ap2 f_spec_l1Words⟩
noncomputable abbrev f_spec_l1Words.l0.u (n : Nat) := ap4 (f_spec_l1Words.l0 n)
noncomputable def f_spec_l1Words.l0.c : LoopCon := ⟨1000, 6, [0, 1, 4, 5], ⟨[(0, bN R1), (1, i0), (4, .bool false), (5, i0)], [], 1000⟩, [(.sl R1), iI, .bool, iI], [⟨.ret, [4], ⟨[(4, .bool false)], [], 1000⟩, [.bool]⟩, ⟨.exit 0, [0, 1, 4], ⟨[(0, bN R1), (1, i0), (4, .bool false)], [], 1000⟩, [(.sl R1), iI, .bool]⟩], f_spec_l1Words.l0.u N⟩
noncomputable abbrev K158 : Cons := [(47, C47)]
noncomputable abbrev L158 : List (Nat × Loops) := [(158, [(2, f_spec_l1Words.l0.c)])]
noncomputable abbrev X158 : Nat → Ctx := ctxOf tb K158 L158 Qe
theorem f_spec_l1Words.l0.ok : ∀ n p, f_spec_l1Words.l0.u n p = iterD (roundOf fs X158 6 158 2 false f_spec_l1Words.l0.c) n p :=
 iter_of (l := f_spec_l1Words.l0.u) (fun _ => rfl) (fun n p => by kernel_rfl)
theorem E158 : ∀ x, funRun fs X158 6 158 C158 x = C158.fn x := fun x => by kernel_rfl
theorem B158 : ConB Tryz.prog 158 C158 := ConB.make FS MIX TY (cons := K158) (L := L158) (ptrs := Qe) ⟨S47, trivial⟩ trivial ⟨⟨⟨N, fun p => f_spec_l1Words.l0.ok N p⟩, trivial⟩, trivial⟩ rfl rfl E158
theorem S158 : ConS Tryz.prog 158 C158 := B158.call rfl
noncomputable def f_spec_FrameOk (x0 : Int) (x1 : List Int) (x2 : Bool) : Option (Bool) :=
 bif (decide (x0 = (0 : Int))) then
 some (decide ((x1.length : Int) = (0 : Int)))
 else
 (f_spec_l1In x0 0 2).bind fun y0 =>
 bif y0 then
 (f_spec_l1Words x1 4).bind fun y1 =>
 some y1
 else
 some false
noncomputable def C104 : Con := ⟨[(.B, true, [iI, (.sl R1), .bool])], [(false, [.bool])], [iI, (.sl R1), .bool], [.bool], ap3 f_spec_FrameOk⟩
noncomputable abbrev K104 : Cons := [(47, C47), (158, C158)]
noncomputable abbrev X104 : Nat → Ctx := ctxOf tb K104 Le Qe
theorem E104 : ∀ x, funRun fs X104 6 104 C104 x = C104.fn x := fun x => by kernel_rfl
theorem B104 : ConB Tryz.prog 104 C104 := ConB.make FS MIX TY (cons := K104) (L := Le) (ptrs := Qe) ⟨S47, S158, trivial⟩ trivial trivial rfl rfl E104
theorem S104 : ConS Tryz.prog 104 C104 := B104.call rfl
noncomputable def f_spec_HomeOk.l0 : Nat → Int → Bool → Int → (List Int) → Int → (List Bool) → Bool → Int → Bool → Int → tyW → Option ((Bool) ⊕ (Bool))
 | 0, _, _, _, _, _, _, _, _, _, _, _ => none
 | n + 1, p0, p1, p2, p3, p4, p5, p6, p7, p8, p9, p10 =>
 bif (decide (p2 < (p10.length : Int))) then
 bif ((decide ((0 : Int) ≤ p2)) && (decide (p2 < (p10.length : Int)))) then
 (f_spec_l1In ((p10.getD p2.toNat (0, false)).1) 0 (IntKind.wrap .i64 (p0 - (1 : Int)))).bind fun y11 =>
 bif (!y11) then
 some (.inl false)
 else
 f_spec_HomeOk.l0 n p0 p1 (IntKind.wrap .i64 (p2 + (1 : Int))) p3 p4 p5 p6 p7 p8 p9 p10
 else none
 else
 some (.inr p1)
noncomputable def f_spec_HomeOk (x0 : List Int) (x1 : Int) (x2 : List Bool) (x3 : Bool) (x4 : Int) (x5 : Bool) (x6 : Int) (x7 : tyW) (x8 : Int) : Option (Bool) :=
 (f_spec_l1In x8 1 4).bind fun y0 =>
 bif (!y0) then
 some false
 else
 (f_spec_l1Words x0 4).bind fun y1 =>
 bif (!y1) then
 some false
 else
 (f_spec_l1In x1 (-1) (IntKind.wrap .i64 (x8 - (1 : Int)))).bind fun y2 =>
 bif (!y2) then
 some false
 else
 bif (!(decide ((x2.length : Int) = x8))) then
 some false
 else
 (f_spec_l1In x4 0 (IntKind.wrap .i64 (x8 - (1 : Int)))).bind fun y3 =>
 bif (!y3) then
 some false
 else
 (f_spec_l1In x6 0 x8).bind fun y4 =>
 bif (!y4) then
 some false
 else
 bif (decide ((12 : Int) < (x7.length : Int))) then
 some false
 else
 (f_spec_HomeOk.l0 N x8 false 0 x0 x1 x2 x3 x4 x5 x6 x7).bind fun r5 =>
 cs r5 (fun a6 =>
 some a6) (fun b7 =>
 some true)
noncomputable def C105 : Con := ⟨[(.B, true, [(.sl R1), iI, (.sl R2), .bool, iI, .bool, iI, (.sl R3)]), (.B, false, [iI])], [(false, [.bool])], [(.sl R1), iI, (.sl R2), .bool, iI, .bool, iI, (.sl R3), iI], [.bool], ap9 f_spec_HomeOk⟩
noncomputable abbrev f_spec_HomeOk.l0.u (n : Nat) := ap11 (f_spec_HomeOk.l0 n)
noncomputable def f_spec_HomeOk.l0.c : LoopCon := ⟨1000, 6, [1, 2, 4, 5], ⟨[(1, i0), (2, .ptr 1000 0), (4, .bool false), (5, i0)], [(1000, .box [bN R1, i0, bN R2, .bool false, i0, .bool false, i0, bN R3])], 1001⟩, [iI, .bool, iI, (.sl R1), iI, (.sl R2), .bool, iI, .bool, iI, (.sl R3)], [⟨.ret, [4], ⟨[(4, .bool false)], [], 1000⟩, [.bool]⟩, ⟨.exit 0, [4], ⟨[(4, .bool false)], [], 1000⟩, [.bool]⟩], f_spec_HomeOk.l0.u N⟩
noncomputable abbrev K105 : Cons := [(47, C47), (158, C158)]
noncomputable abbrev L105 : List (Nat × Loops) := [(105, [(4, f_spec_HomeOk.l0.c)])]
noncomputable abbrev X105 : Nat → Ctx := ctxOf tb K105 L105 Qe
theorem f_spec_HomeOk.l0.ok : ∀ n p, f_spec_HomeOk.l0.u n p = iterD (roundOf fs X105 6 105 4 false f_spec_HomeOk.l0.c) n p :=
 iter_of (l := f_spec_HomeOk.l0.u) (fun _ => rfl) (fun n p => by kernel_rfl)
theorem E105 : ∀ x, funRun fs X105 6 105 C105 x = C105.fn x := fun x => by kernel_rfl
theorem B105 : ConB Tryz.prog 105 C105 := ConB.make FS MIX TY (cons := K105) (L := L105) (ptrs := Qe) ⟨S47, S158, trivial⟩ trivial ⟨⟨⟨N, fun p => f_spec_HomeOk.l0.ok N p⟩, trivial⟩, trivial⟩ rfl rfl E105
theorem S105 : ConS Tryz.prog 105 C105 := B105.call rfl
noncomputable def f_spec_MsgOk (x0 : Int) (x1 : Int) (x2 : Bool) (x3 : List Int) : Option (Bool) :=
 bif (decide (x0 = (3 : Int))) then
 bif (decide (x0 = (3 : Int))) then
 (f_spec_l1In x0 1 7).bind fun y0 =>
 bif y0 then
 (f_spec_l1In x1 0 5).bind fun y1 =>
 bif y1 then
 (f_spec_l1Words x3 4).bind fun y2 =>
 some y2
 else
 some false
 else
 some false
 else
 (f_spec_l1In x0 1 7).bind fun y3 =>
 bif y3 then
 (f_spec_l1In x1 0 5).bind fun y4 =>
 bif y4 then
 bif (decide (x0 = (6 : Int))) then
 (f_spec_l1Words x3 4).bind fun y5 =>
 some y5
 else
 bif (!x2) then
 (f_spec_l1Words x3 4).bind fun y6 =>
 some y6
 else
 some false
 else
 some false
 else
 some false
 else
 bif (decide (x0 = (7 : Int))) then
 bif (decide (x0 = (3 : Int))) then
 (f_spec_l1In x0 1 7).bind fun y7 =>
 bif y7 then
 (f_spec_l1In x1 0 5).bind fun y8 =>
 bif y8 then
 (f_spec_l1Words x3 4).bind fun y9 =>
 some y9
 else
 some false
 else
 some false
 else
 (f_spec_l1In x0 1 7).bind fun y10 =>
 bif y10 then
 (f_spec_l1In x1 0 5).bind fun y11 =>
 bif y11 then
 bif (decide (x0 = (6 : Int))) then
 (f_spec_l1Words x3 4).bind fun y12 =>
 some y12
 else
 bif (!x2) then
 (f_spec_l1Words x3 4).bind fun y13 =>
 some y13
 else
 some false
 else
 some false
 else
 some false
 else
 bif (decide (x0 = (3 : Int))) then
 (f_spec_l1In x0 1 7).bind fun y14 =>
 bif y14 then
 (f_spec_l1In x1 0 5).bind fun y15 =>
 bif y15 then
 (f_spec_l1Words x3 0).bind fun y16 =>
 some y16
 else
 some false
 else
 some false
 else
 (f_spec_l1In x0 1 7).bind fun y17 =>
 bif y17 then
 (f_spec_l1In x1 0 5).bind fun y18 =>
 bif y18 then
 bif (decide (x0 = (6 : Int))) then
 (f_spec_l1Words x3 0).bind fun y19 =>
 some y19
 else
 bif (!x2) then
 (f_spec_l1Words x3 0).bind fun y20 =>
 some y20
 else
 some false
 else
 some false
 else
 some false
noncomputable def C107 : Con := ⟨[(.B, true, [iI, iI, .bool, (.sl R1)])], [(false, [.bool])], [iI, iI, .bool, (.sl R1)], [.bool], ap4 f_spec_MsgOk⟩
noncomputable abbrev K107 : Cons := [(47, C47), (158, C158)]
noncomputable abbrev X107 : Nat → Ctx := ctxOf tb K107 Le Qe
theorem E107 : ∀ x, funRun fs X107 6 107 C107 x = C107.fn x := fun x => by kernel_rfl
theorem B107 : ConB Tryz.prog 107 C107 := ConB.make FS MIX TY (cons := K107) (L := Le) (ptrs := Qe) ⟨S47, S158, trivial⟩ trivial trivial rfl rfl E107
theorem S107 : ConS Tryz.prog 107 C107 := B107.call rfl
noncomputable def f_spec_SenderOk.l0 : Nat → Bool → Int → Int → tyM → Option ((Bool) ⊕ (Bool × Int × tyM))
 | 0, _, _, _, _ => none
 | n + 1, p0, p1, p2, p3 =>
 bif (decide (p1 < (p3.length : Int))) then
 bif ((decide ((0 : Int) ≤ p1)) && (decide (p1 < (p3.length : Int)))) then
 (f_spec_MsgOk ((p3.getD p1.toNat (0, 0, false, [])).1) ((p3.getD p1.toNat (0, 0, false, [])).2.1) ((p3.getD p1.toNat (0, 0, false, [])).2.2.1) ((p3.getD p1.toNat (0, 0, false, [])).2.2.2)).bind fun y4 =>
 bif (!y4) then
 some (.inl false)
 else
 f_spec_SenderOk.l0 n p0 (IntKind.wrap .i64 (p1 + (1 : Int))) p2 p3
 else none
 else
 some (.inr (p0, p2, p3))
noncomputable def f_spec_SenderOk (x0 : Int) (x1 : tyM) : Option (Bool) :=
 (f_spec_SenderOk.l0 N false 0 x0 x1).bind fun r0 =>
 cs r0 (fun a1 =>
 some a1) (fun b2 =>
 (f_spec_l1In b2.2.1 0 100000).bind fun y3 =>
 bif y3 then
 bif (decide ((b2.2.2.length : Int) ≤ (30 : Int))) then
 some (decide ((IntKind.wrap .i64 (b2.2.1 + (b2.2.2.length : Int))) ≤ (100000 : Int)))
 else
 some false
 else
 some false)
noncomputable def C106 : Con := ⟨[(.B, true, [iI, (.sl R6)])], [(false, [.bool])], [iI, (.sl R6)], [.bool], ap2 f_spec_SenderOk⟩
noncomputable abbrev f_spec_SenderOk.l0.u (n : Nat) := ap4 (f_spec_SenderOk.l0 n)
noncomputable def f_spec_SenderOk.l0.c : LoopCon := ⟨1000, 6, [1, 2, 3], ⟨[(1, .ptr 1000 0), (2, .bool false), (3, i0)], [(1000, .box [i0, bN R6])], 1001⟩, [.bool, iI, iI, (.sl R6)], [⟨.ret, [2], ⟨[(2, .bool false)], [], 1000⟩, [.bool]⟩, ⟨.exit 0, [1, 2], ⟨[(1, .ptr 1000 0), (2, .bool false)], [(1000, .box [i0, bN R6])], 1001⟩, [.bool, iI, (.sl R6)]⟩], f_spec_SenderOk.l0.u N⟩
noncomputable abbrev K106 : Cons := [(47, C47), (107, C107)]
noncomputable abbrev L106 : List (Nat × Loops) := [(106, [(2, f_spec_SenderOk.l0.c)])]
noncomputable abbrev X106 : Nat → Ctx := ctxOf tb K106 L106 Qe
theorem f_spec_SenderOk.l0.ok : ∀ n p, f_spec_SenderOk.l0.u n p = iterD (roundOf fs X106 6 106 2 false f_spec_SenderOk.l0.c) n p :=
 iter_of (l := f_spec_SenderOk.l0.u) (fun _ => rfl) (fun n p => by kernel_rfl)
theorem E106 : ∀ x, funRun fs X106 6 106 C106 x = C106.fn x := fun x => by kernel_rfl
theorem B106 : ConB Tryz.prog 106 C106 := ConB.make FS MIX TY (cons := K106) (L := L106) (ptrs := Qe) ⟨S47, S107, trivial⟩ trivial ⟨⟨⟨N, fun p => f_spec_SenderOk.l0.ok N p⟩, trivial⟩, trivial⟩ rfl rfl E106
theorem S106 : ConS Tryz.prog 106 C106 := B106.call rfl
noncomputable def f_spec_NodeOk.l1 : Nat → Int → Bool → Int → Int → tyF → tyH → tyS → (List Int) → Option ((Bool) ⊕ (Bool))
 | 0, _, _, _, _, _, _, _, _ => none
 | n + 1, p0, p1, p2, p3, p4, p5, p6, p7 =>
 bif (decide (p2 < p0)) then
 bif ((decide ((0 : Int) ≤ p2)) && (decide (p2 < (p6.length : Int)))) then
 (f_spec_SenderOk ((p6.getD p2.toNat (0, [])).1) ((p6.getD p2.toNat (0, [])).2)).bind fun y8 =>
 bif (!y8) then
 some (.inl false)
 else
 bif ((decide ((0 : Int) ≤ p2)) && (decide (p2 < (p7.length : Int)))) then
 (f_spec_l1In (p7.getD p2.toNat 0) 0 100000).bind fun y9 =>
 bif (!y9) then
 some (.inl false)
 else
 f_spec_NodeOk.l1 n p0 p1 (IntKind.wrap .i64 (p2 + (1 : Int))) p3 p4 p5 p6 p7
 else none
 else none
 else
 some (.inr p1)
noncomputable def f_spec_NodeOk.l0 : Nat → Int → Bool → Int → Int → tyF → tyH → tyS → (List Int) → Option ((Bool) ⊕ (Int × Bool × Int × tyF × tyH × tyS × List Int))
 | 0, _, _, _, _, _, _, _, _ => none
 | n + 1, p0, p1, p2, p3, p4, p5, p6, p7 =>
 bif (decide (p2 < (6 : Int))) then
 bif ((decide ((0 : Int) ≤ p2)) && (decide (p2 < (p4.length : Int)))) then
 (f_spec_FrameOk ((p4.getD p2.toNat (0, [], false)).1) ((p4.getD p2.toNat (0, [], false)).2.1) ((p4.getD p2.toNat (0, [], false)).2.2)).bind fun y8 =>
 bif (!y8) then
 some (.inl false)
 else
 bif ((decide ((0 : Int) ≤ p2)) && (decide (p2 < (p5.length : Int)))) then
 (f_spec_HomeOk ((p5.getD p2.toNat ([], 0, [], false, 0, false, 0, [])).1) ((p5.getD p2.toNat ([], 0, [], false, 0, false, 0, [])).2.1) ((p5.getD p2.toNat ([], 0, [], false, 0, false, 0, [])).2.2.1) ((p5.getD p2.toNat ([], 0, [], false, 0, false, 0, [])).2.2.2.1) ((p5.getD p2.toNat ([], 0, [], false, 0, false, 0, [])).2.2.2.2.1) ((p5.getD p2.toNat ([], 0, [], false, 0, false, 0, [])).2.2.2.2.2.1) ((p5.getD p2.toNat ([], 0, [], false, 0, false, 0, [])).2.2.2.2.2.2.1) ((p5.getD p2.toNat ([], 0, [], false, 0, false, 0, [])).2.2.2.2.2.2.2) p0).bind fun y9 =>
 bif (!y9) then
 some (.inl false)
 else
 f_spec_NodeOk.l0 n p0 p1 (IntKind.wrap .i64 (p2 + (1 : Int))) p3 p4 p5 p6 p7
 else none
 else none
 else
 some (.inr (p0, p1, p3, p4, p5, p6, p7))
noncomputable def f_spec_NodeOk (x0 : Int) (x1 : tyF) (x2 : tyH) (x3 : tyS) (x4 : List Int) (x5 : Int) : Option (Bool) :=
 (f_spec_l1In x5 1 4).bind fun y0 =>
 bif (!y0) then
 some false
 else
 (f_spec_l1In x0 0 (IntKind.wrap .i64 (x5 - (1 : Int)))).bind fun y1 =>
 bif (!y1) then
 some false
 else
 bif (!(decide ((x1.length : Int) = (6 : Int)))) then
 some false
 else
 bif (!(decide ((x2.length : Int) = (6 : Int)))) then
 some false
 else
 bif (!(decide ((x3.length : Int) = x5))) then
 some false
 else
 bif (!(decide ((x4.length : Int) = x5))) then
 some false
 else
 (f_spec_NodeOk.l0 N x5 false 0 x0 x1 x2 x3 x4).bind fun r2 =>
 cs r2 (fun a3 =>
 some a3) (fun b4 =>
 (f_spec_NodeOk.l1 N b4.1 b4.2.1 0 b4.2.2.1 b4.2.2.2.1 b4.2.2.2.2.1 b4.2.2.2.2.2.1 b4.2.2.2.2.2.2).bind fun r5 =>
 cs r5 (fun a6 =>
 some a6) (fun b7 =>
 some true))
noncomputable def C54 : Con := ⟨[(.B, true, [iI, (.sl R4), (.sl R5), (.sl R7), (.sl R1)]), (.B, false, [iI])], [(false, [.bool])], [iI, (.sl R4), (.sl R5), (.sl R7), (.sl R1), iI], [.bool], ap6 f_spec_NodeOk⟩
noncomputable abbrev f_spec_NodeOk.l0.u (n : Nat) := ap8 (f_spec_NodeOk.l0 n)
noncomputable def f_spec_NodeOk.l0.c : LoopCon := ⟨1000, 6, [1, 2, 4, 5], ⟨[(1, i0), (2, .ptr 1000 0), (4, .bool false), (5, i0)], [(1000, .box [i0, bN R4, bN R5, bN R7, bN R1])], 1001⟩, [iI, .bool, iI, iI, (.sl R4), (.sl R5), (.sl R7), (.sl R1)], [⟨.ret, [4], ⟨[(4, .bool false)], [], 1000⟩, [.bool]⟩, ⟨.exit 0, [1, 2, 4], ⟨[(1, i0), (2, .ptr 1000 0), (4, .bool false)], [(1000, .box [i0, bN R4, bN R5, bN R7, bN R1])], 1001⟩, [iI, .bool, iI, (.sl R4), (.sl R5), (.sl R7), (.sl R1)]⟩], f_spec_NodeOk.l0.u N⟩
noncomputable abbrev f_spec_NodeOk.l1.u (n : Nat) := ap8 (f_spec_NodeOk.l1 n)
noncomputable def f_spec_NodeOk.l1.c : LoopCon := ⟨1000, 6, [1, 2, 4, 6], ⟨[(1, i0), (2, .ptr 1000 0), (4, .bool false), (6, i0)], [(1000, .box [i0, bN R4, bN R5, bN R7, bN R1])], 1001⟩, [iI, .bool, iI, iI, (.sl R4), (.sl R5), (.sl R7), (.sl R1)], [⟨.ret, [4], ⟨[(4, .bool false)], [], 1000⟩, [.bool]⟩, ⟨.exit 2, [4], ⟨[(4, .bool false)], [], 1000⟩, [.bool]⟩], f_spec_NodeOk.l1.u N⟩
noncomputable abbrev K54 : Cons := [(47, C47), (104, C104), (105, C105), (106, C106)]
noncomputable abbrev L54 : List (Nat × Loops) := [(54, [(4, f_spec_NodeOk.l0.c), (9, f_spec_NodeOk.l1.c)])]
noncomputable abbrev X54 : Nat → Ctx := ctxOf tb K54 L54 Qe
theorem f_spec_NodeOk.l0.ok : ∀ n p, f_spec_NodeOk.l0.u n p = iterD (roundOf fs X54 6 54 4 false f_spec_NodeOk.l0.c) n p :=
 iter_of (l := f_spec_NodeOk.l0.u) (fun _ => rfl) (fun n p => by kernel_rfl)
theorem f_spec_NodeOk.l1.ok : ∀ n p, f_spec_NodeOk.l1.u n p = iterD (roundOf fs X54 6 54 9 false f_spec_NodeOk.l1.c) n p :=
 iter_of (l := f_spec_NodeOk.l1.u) (fun _ => rfl) (fun n p => by kernel_rfl)
theorem E54 : ∀ x, funRun fs X54 6 54 C54 x = C54.fn x := fun x => by kernel_rfl
theorem B54 : ConB Tryz.prog 54 C54 := ConB.make FS MIX TY (cons := K54) (L := L54) (ptrs := Qe) ⟨S47, S104, S105, S106, trivial⟩ trivial ⟨⟨⟨N, fun p => f_spec_NodeOk.l0.ok N p⟩, ⟨N, fun p => f_spec_NodeOk.l1.ok N p⟩, trivial⟩, trivial⟩ rfl rfl E54
theorem S54 : ConS Tryz.prog 54 C54 := B54.call rfl
noncomputable def f_spec_PacketOk (x0 : Int) (x1 : Int) (x2 : Bool) (x3 : Int) (x4 : Int) (x5 : Int) (x6 : Bool) (x7 : List Int) (x8 : Int) : Option (Bool) :=
 (f_spec_l1In x8 1 4).bind fun y0 =>
 bif (!y0) then
 some false
 else
 (f_spec_l1In x0 0 (IntKind.wrap .i64 (x8 - (1 : Int)))).bind fun y1 =>
 bif (!y1) then
 some false
 else
 (f_spec_l1In x1 0 (IntKind.wrap .i64 (x8 - (1 : Int)))).bind fun y2 =>
 bif (!y2) then
 some false
 else
 (f_spec_l1In x3 0 100000).bind fun y3 =>
 bif (!y3) then
 some false
 else
 bif x2 then
 bif (decide (x4 = (0 : Int))) then
 bif (decide (x5 = (0 : Int))) then
 bif (!x6) then
 some (decide ((x7.length : Int) = (0 : Int)))
 else
 some false
 else
 some false
 else
 some false
 else
 (f_spec_MsgOk x4 x5 x6 x7).bind fun y4 =>
 some y4
noncomputable def C55 : Con := ⟨[(.B, true, [iI, iI, .bool, iI, iI, iI, .bool, (.sl R1)]), (.B, false, [iI])], [(false, [.bool])], [iI, iI, .bool, iI, iI, iI, .bool, (.sl R1), iI], [.bool], ap9 f_spec_PacketOk⟩
noncomputable abbrev K55 : Cons := [(47, C47), (107, C107)]
noncomputable abbrev X55 : Nat → Ctx := ctxOf tb K55 Le Qe
theorem E55 : ∀ x, funRun fs X55 6 55 C55 x = C55.fn x := fun x => by kernel_rfl
theorem B55 : ConB Tryz.prog 55 C55 := ConB.make FS MIX TY (cons := K55) (L := Le) (ptrs := Qe) ⟨S47, S107, trivial⟩ trivial trivial rfl rfl E55
theorem S55 : ConS Tryz.prog 55 C55 := B55.call rfl
noncomputable def f_spec_WorldOk.l1 : Nat → Bool → Int → Int → tyN → tyP → Option ((Bool) ⊕ (Bool))
 | 0, _, _, _, _, _ => none
 | n + 1, p0, p1, p2, p3, p4 =>
 bif (decide (p1 < (p4.length : Int))) then
 bif ((decide ((0 : Int) ≤ p1)) && (decide (p1 < (p4.length : Int)))) then
 (f_spec_PacketOk ((p4.getD p1.toNat (0, 0, false, 0, 0, 0, false, [])).1) ((p4.getD p1.toNat (0, 0, false, 0, 0, 0, false, [])).2.1) ((p4.getD p1.toNat (0, 0, false, 0, 0, 0, false, [])).2.2.1) ((p4.getD p1.toNat (0, 0, false, 0, 0, 0, false, [])).2.2.2.1) ((p4.getD p1.toNat (0, 0, false, 0, 0, 0, false, [])).2.2.2.2.1) ((p4.getD p1.toNat (0, 0, false, 0, 0, 0, false, [])).2.2.2.2.2.1) ((p4.getD p1.toNat (0, 0, false, 0, 0, 0, false, [])).2.2.2.2.2.2.1) ((p4.getD p1.toNat (0, 0, false, 0, 0, 0, false, [])).2.2.2.2.2.2.2) p2).bind fun y5 =>
 bif (!y5) then
 some (.inl false)
 else
 f_spec_WorldOk.l1 n p0 (IntKind.wrap .i64 (p1 + (1 : Int))) p2 p3 p4
 else none
 else
 some (.inr p0)
noncomputable def f_spec_WorldOk.l0 : Nat → Bool → Int → Int → tyN → tyP → Option ((Bool) ⊕ (Bool × Int × tyN × tyP))
 | 0, _, _, _, _, _ => none
 | n + 1, p0, p1, p2, p3, p4 =>
 bif (decide (p1 < p2)) then
 bif ((decide ((0 : Int) ≤ p1)) && (decide (p1 < (p3.length : Int)))) then
 (f_spec_NodeOk ((p3.getD p1.toNat (0, [], [], [], [])).1) ((p3.getD p1.toNat (0, [], [], [], [])).2.1) ((p3.getD p1.toNat (0, [], [], [], [])).2.2.1) ((p3.getD p1.toNat (0, [], [], [], [])).2.2.2.1) ((p3.getD p1.toNat (0, [], [], [], [])).2.2.2.2) p2).bind fun y5 =>
 bif (!y5) then
 some (.inl false)
 else
 bif ((decide ((0 : Int) ≤ p1)) && (decide (p1 < (p3.length : Int)))) then
 bif (!(decide (((p3.getD p1.toNat (0, [], [], [], [])).1) = p1))) then
 some (.inl false)
 else
 f_spec_WorldOk.l0 n p0 (IntKind.wrap .i64 (p1 + (1 : Int))) p2 p3 p4
 else none
 else none
 else
 some (.inr (p0, p2, p3, p4))
noncomputable def f_spec_WorldOk (x0 : Int) (x1 : tyN) (x2 : tyP) : Option (Bool) :=
 (f_spec_l1In x0 1 4).bind fun y0 =>
 bif (!y0) then
 some false
 else
 bif (!(decide ((x1.length : Int) = x0))) then
 some false
 else
 bif (decide ((40 : Int) < (x2.length : Int))) then
 some false
 else
 (f_spec_WorldOk.l0 N false 0 x0 x1 x2).bind fun r1 =>
 cs r1 (fun a2 =>
 some a2) (fun b3 =>
 (f_spec_WorldOk.l1 N b3.1 0 b3.2.1 b3.2.2.1 b3.2.2.2).bind fun r4 =>
 cs r4 (fun a5 =>
 some a5) (fun b6 =>
 some true))
noncomputable def C18 : Con := ⟨[(.B, true, [iI, (.sl R8), (.sl R9)])], [(false, [.bool])], [iI, (.sl R8), (.sl R9)], [.bool], ap3 f_spec_WorldOk⟩
noncomputable abbrev f_spec_WorldOk.l0.u (n : Nat) := ap5 (f_spec_WorldOk.l0 n)
noncomputable def f_spec_WorldOk.l0.c : LoopCon := ⟨1000, 6, [1, 2, 3], ⟨[(1, .ptr 1000 0), (2, .bool false), (3, i0)], [(1000, .box [i0, bN R8, bN R9])], 1001⟩, [.bool, iI, iI, (.sl R8), (.sl R9)], [⟨.ret, [2], ⟨[(2, .bool false)], [], 1000⟩, [.bool]⟩, ⟨.exit 0, [1, 2], ⟨[(1, .ptr 1000 0), (2, .bool false)], [(1000, .box [i0, bN R8, bN R9])], 1001⟩, [.bool, iI, (.sl R8), (.sl R9)]⟩], f_spec_WorldOk.l0.u N⟩
noncomputable abbrev f_spec_WorldOk.l1.u (n : Nat) := ap5 (f_spec_WorldOk.l1 n)
noncomputable def f_spec_WorldOk.l1.c : LoopCon := ⟨1000, 6, [1, 2, 4], ⟨[(1, .ptr 1000 0), (2, .bool false), (4, i0)], [(1000, .box [i0, bN R8, bN R9])], 1001⟩, [.bool, iI, iI, (.sl R8), (.sl R9)], [⟨.ret, [2], ⟨[(2, .bool false)], [], 1000⟩, [.bool]⟩, ⟨.exit 2, [2], ⟨[(2, .bool false)], [], 1000⟩, [.bool]⟩], f_spec_WorldOk.l1.u N⟩
noncomputable abbrev K18 : Cons := [(47, C47), (54, C54), (55, C55)]
noncomputable abbrev L18 : List (Nat × Loops) := [(18, [(4, f_spec_WorldOk.l0.c), (9, f_spec_WorldOk.l1.c)])]
noncomputable abbrev X18 : Nat → Ctx := ctxOf tb K18 L18 Qe
theorem f_spec_WorldOk.l0.ok : ∀ n p, f_spec_WorldOk.l0.u n p = iterD (roundOf fs X18 6 18 4 false f_spec_WorldOk.l0.c) n p :=
 iter_of (l := f_spec_WorldOk.l0.u) (fun _ => rfl) (fun n p => by kernel_rfl)
theorem f_spec_WorldOk.l1.ok : ∀ n p, f_spec_WorldOk.l1.u n p = iterD (roundOf fs X18 6 18 9 false f_spec_WorldOk.l1.c) n p :=
 iter_of (l := f_spec_WorldOk.l1.u) (fun _ => rfl) (fun n p => by kernel_rfl)
theorem E18 : ∀ x, funRun fs X18 6 18 C18 x = C18.fn x := fun x => by kernel_rfl
theorem B18 : ConB Tryz.prog 18 C18 := ConB.make FS MIX TY (cons := K18) (L := L18) (ptrs := Qe) ⟨S47, S54, S55, trivial⟩ trivial ⟨⟨⟨N, fun p => f_spec_WorldOk.l0.ok N p⟩, ⟨N, fun p => f_spec_WorldOk.l1.ok N p⟩, trivial⟩, trivial⟩ rfl rfl E18
theorem S18 : ConS Tryz.prog 18 C18 := B18.call rfl
noncomputable def f_spec_l3Copy (x0 : Int) (x1 : List Int) (x2 : Bool) : Option (Int × List Int × Bool) :=
 bif (Nat.blt (([] : List Int).length + x1.length) 17592186044416) then
 (some ((([] : List Int) ++ x1) : List Int)).bind fun z0 =>
 some (x0, z0, x2)
 else none
noncomputable def C137 : Con := ⟨[(.B, true, [iI, (.sl R1), .bool])], [(true, [iI, (.sl R1), .bool])], [iI, (.sl R1), .bool], [iI, (.sl R1), .bool], ap3 f_spec_l3Copy⟩
noncomputable abbrev X137 : Nat → Ctx := ctxOf tb Ke Le Qe
theorem E137 : ∀ x, funRun fs X137 6 137 C137 x = C137.fn x := fun x => by kernel_rfl
theorem B137 : ConB Tryz.prog 137 C137 := ConB.make FS MIX TY (cons := Ke) (L := Le) (ptrs := Qe) trivial trivial trivial rfl rfl E137
theorem S137 : ConS Tryz.prog 137 C137 := B137.call rfl
noncomputable def f_spec_l4Copy (x0 : List Int) (x1 : Int) (x2 : List Bool) (x3 : Bool) (x4 : Int) (x5 : Bool) (x6 : Int) (x7 : tyW) : Option (List Int × Int × List Bool × Bool × Int × Bool × Int × tyW) :=
 bif (Nat.blt (([] : List Int).length + x0.length) 17592186044416) then
 (some ((([] : List Int) ++ x0) : List Int)).bind fun z0 =>
 bif (Nat.blt (([] : List Bool).length + x2.length) 140737488355328) then
 (some ((([] : List Bool) ++ x2) : List Bool)).bind fun z1 =>
 bif (Nat.blt (([] : tyW).length + x7.length) 8796093022208) then
 (some ((([] : tyW) ++ x7) : tyW)).bind fun z2 =>
 some (z0, x1, z1, x3, x4, x5, x6, z2)
 else none
 else none
 else none
noncomputable def C138 : Con := ⟨[(.B, true, [(.sl R1), iI, (.sl R2), .bool, iI, .bool, iI, (.sl R3)])], [(true, [(.sl R1), iI, (.sl R2), .bool, iI, .bool, iI, (.sl R3)])], [(.sl R1), iI, (.sl R2), .bool, iI, .bool, iI, (.sl R3)], [(.sl R1), iI, (.sl R2), .bool, iI, .bool, iI, (.sl R3)], ap8 f_spec_l4Copy⟩
noncomputable abbrev X138 : Nat → Ctx := ctxOf tb Ke Le Qe
theorem E138 : ∀ x, funRun fs X138 6 138 C138 x = C138.fn x := fun x => by kernel_rfl
theorem B138 : ConB Tryz.prog 138 C138 := ConB.make FS MIX TY (cons := Ke) (L := Le) (ptrs := Qe) trivial trivial trivial rfl rfl E138
theorem S138 : ConS Tryz.prog 138 C138 := B138.call rfl
noncomputable def f_spec_l1Msg (x0 : Int) (x1 : Int) (x2 : Bool) (x3 : List Int) : Option (Int × Int × Bool × List Int) :=
 bif (Nat.blt (([] : List Int).length + x3.length) 17592186044416) then
 (some ((([] : List Int) ++ x3) : List Int)).bind fun z0 =>
 some (x0, x1, x2, z0)
 else none
noncomputable def C140 : Con := ⟨[(.B, true, [iI, iI, .bool, (.sl R1)])], [(true, [iI, iI, .bool, (.sl R1)])], [iI, iI, .bool, (.sl R1)], [iI, iI, .bool, (.sl R1)], ap4 f_spec_l1Msg⟩
noncomputable abbrev X140 : Nat → Ctx := ctxOf tb Ke Le Qe
theorem E140 : ∀ x, funRun fs X140 6 140 C140 x = C140.fn x := fun x => by kernel_rfl
theorem B140 : ConB Tryz.prog 140 C140 := ConB.make FS MIX TY (cons := Ke) (L := Le) (ptrs := Qe) trivial trivial trivial rfl rfl E140
theorem S140 : ConS Tryz.prog 140 C140 := B140.call rfl
noncomputable def f_spec_l2Sender.l0 : Nat → Int → Int → tyM → Int → Int → tyM → tyM → Option (Int × Int × tyM × tyM)
 | 0, _, _, _, _, _, _, _ => none
 | n + 1, p0, p1, p2, p3, p4, p5, p6 =>
 bif (decide (p0 < (p2.length : Int))) then
 bif ((decide ((0 : Int) ≤ p0)) && (decide (p0 < (p2.length : Int)))) then
 (f_spec_l1Msg ((p2.getD p0.toNat (0, 0, false, [])).1) ((p2.getD p0.toNat (0, 0, false, [])).2.1) ((p2.getD p0.toNat (0, 0, false, [])).2.2.1) ((p2.getD p0.toNat (0, 0, false, [])).2.2.2)).bind fun y7 =>
 bif (Nat.blt (p6.length + ([(y7.1, y7.2.1, y7.2.2.1, y7.2.2.2)] : tyM).length) 2932031007402) then
 (some ((p6 ++ ([(y7.1, y7.2.1, y7.2.2.1, y7.2.2.2)] : tyM)) : tyM)).bind fun z8 =>
 f_spec_l2Sender.l0 n (IntKind.wrap .i64 (p0 + (1 : Int))) p1 p2 p3 p4 p5 z8
 else none
 else none
 else
 some (p3, p4, p5, p6)
noncomputable def f_spec_l2Sender (x0 : Int) (x1 : tyM) : Option (Int × tyM) :=
 (f_spec_l2Sender.l0 N 0 x0 x1 0 x0 ([] : tyM) ([] : tyM)).bind fun r0 =>
 some (r0.2.1, r0.2.2.2)
noncomputable def C139 : Con := ⟨[(.B, true, [iI, (.sl R6)])], [(true, [iI, (.sl R6)])], [iI, (.sl R6)], [iI, (.sl R6)], ap2 f_spec_l2Sender⟩
noncomputable abbrev f_spec_l2Sender.l0.u (n : Nat) := ap7 (f_spec_l2Sender.l0 n)
noncomputable def f_spec_l2Sender.l0.c : LoopCon := ⟨1000, 6, [1, 2, 3, 4], ⟨[(1, .ptr 1000 0), (2, .ptr 1001 0), (3, .ptr 1002 0), (4, i0)], [(1000, .box [i0, bN R6]), (1001, .box [i0, .ref 1003 [] none]), (1002, .box [i0, .ref 1004 [] none]), (1003, .row R6 []), (1004, .row R6 [])], 1005⟩, [iI, iI, (.sl R6), iI, iI, (.sl R6), (.sl R6)], [⟨.exit 0, [2, 3], ⟨[(2, .ptr 1000 0), (3, .ptr 1001 0)], [(1000, .box [i0, .ref 1002 [] none]), (1001, .box [i0, .ref 1003 [] none]), (1002, .row R6 []), (1003, .row R6 [])], 1004⟩, [iI, iI, (.sl R6), (.sl R6)]⟩], f_spec_l2Sender.l0.u N⟩
noncomputable abbrev K139 : Cons := [(140, C140)]
noncomputable abbrev L139 : List (Nat × Loops) := [(139, [(3, f_spec_l2Sender.l0.c)])]
noncomputable abbrev X139 : Nat → Ctx := ctxOf tb K139 L139 Qe
theorem f_spec_l2Sender.l0.ok : ∀ n p, f_spec_l2Sender.l0.u n p = iterD (roundOf fs X139 6 139 3 false f_spec_l2Sender.l0.c) n p :=
 iter_of (l := f_spec_l2Sender.l0.u) (fun _ => rfl) (fun n p => by kernel_rfl)
theorem E139 : ∀ x, funRun fs X139 6 139 C139 x = C139.fn x := fun x => by kernel_rfl
theorem B139 : ConB Tryz.prog 139 C139 := ConB.make FS MIX TY (cons := K139) (L := L139) (ptrs := Qe) ⟨S140, trivial⟩ trivial ⟨⟨⟨N, fun p => f_spec_l2Sender.l0.ok N p⟩, trivial⟩, trivial⟩ rfl rfl E139
theorem S139 : ConS Tryz.prog 139 C139 := B139.call rfl
noncomputable def f_spec_l5Copy.l2 : Nat → Int → Int → tyF → tyH → tyS → (List Int) → Int → Int → tyF → tyH → tyS → (List Int) → tyF → tyH → tyS → (List Int) → Option (Int × Int × tyF × tyH × tyS × List Int × tyF × tyH × tyS × List Int)
 | 0, _, _, _, _, _, _, _, _, _, _, _, _, _, _, _, _ => none
 | n + 1, p0, p1, p2, p3, p4, p5, p6, p7, p8, p9, p10, p11, p12, p13, p14, p15 =>
 bif (decide (p0 < (p4.length : Int))) then
 bif ((decide ((0 : Int) ≤ p0)) && (decide (p0 < (p4.length : Int)))) then
 (f_spec_l2Sender ((p4.getD p0.toNat (0, [])).1) ((p4.getD p0.toNat (0, [])).2)).bind fun y16 =>
 bif (Nat.blt (p14.length + ([(y16.1, y16.2)] : tyS).length) 4398046511104) then
 (some ((p14 ++ ([(y16.1, y16.2)] : tyS)) : tyS)).bind fun z17 =>
 f_spec_l5Copy.l2 n (IntKind.wrap .i64 (p0 + (1 : Int))) p1 p2 p3 p4 p5 p6 p7 p8 p9 p10 p11 p12 p13 z17 p15
 else none
 else none
 else
 some (p6, p7, p8, p9, p10, p11, p12, p13, p14, p15)
noncomputable def f_spec_l5Copy.l1 : Nat → Int → Int → tyF → tyH → tyS → (List Int) → Int → Int → tyF → tyH → tyS → (List Int) → tyF → tyH → tyS → (List Int) → Option (Int × tyF × tyH × tyS × List Int × Int × Int × tyF × tyH × tyS × List Int × tyF × tyH × tyS × List Int)
 | 0, _, _, _, _, _, _, _, _, _, _, _, _, _, _, _, _ => none
 | n + 1, p0, p1, p2, p3, p4, p5, p6, p7, p8, p9, p10, p11, p12, p13, p14, p15 =>
 bif (decide (p0 < (p3.length : Int))) then
 bif ((decide ((0 : Int) ≤ p0)) && (decide (p0 < (p3.length : Int)))) then
 (f_spec_l4Copy ((p3.getD p0.toNat ([], 0, [], false, 0, false, 0, [])).1) ((p3.getD p0.toNat ([], 0, [], false, 0, false, 0, [])).2.1) ((p3.getD p0.toNat ([], 0, [], false, 0, false, 0, [])).2.2.1) ((p3.getD p0.toNat ([], 0, [], false, 0, false, 0, [])).2.2.2.1) ((p3.getD p0.toNat ([], 0, [], false, 0, false, 0, [])).2.2.2.2.1) ((p3.getD p0.toNat ([], 0, [], false, 0, false, 0, [])).2.2.2.2.2.1) ((p3.getD p0.toNat ([], 0, [], false, 0, false, 0, [])).2.2.2.2.2.2.1) ((p3.getD p0.toNat ([], 0, [], false, 0, false, 0, [])).2.2.2.2.2.2.2)).bind fun y16 =>
 bif (Nat.blt (p13.length + ([(y16.1, y16.2.1, y16.2.2.1, y16.2.2.2.1, y16.2.2.2.2.1, y16.2.2.2.2.2.1, y16.2.2.2.2.2.2.1, y16.2.2.2.2.2.2.2)] : tyH).length) 1256584717458) then
 (some ((p13 ++ ([(y16.1, y16.2.1, y16.2.2.1, y16.2.2.2.1, y16.2.2.2.2.1, y16.2.2.2.2.2.1, y16.2.2.2.2.2.2.1, y16.2.2.2.2.2.2.2)] : tyH)) : tyH)).bind fun z17 =>
 f_spec_l5Copy.l1 n (IntKind.wrap .i64 (p0 + (1 : Int))) p1 p2 p3 p4 p5 p6 p7 p8 p9 p10 p11 p12 z17 p14 p15
 else none
 else none
 else
 some (p1, p2, p3, p4, p5, p6, p7, p8, p9, p10, p11, p12, p13, p14, p15)
noncomputable def f_spec_l5Copy.l0 : Nat → Int → Int → tyF → tyH → tyS → (List Int) → Int → Int → tyF → tyH → tyS → (List Int) → tyF → tyH → tyS → (List Int) → Option (Int × tyF × tyH × tyS × List Int × Int × Int × tyF × tyH × tyS × List Int × tyF × tyH × tyS × List Int)
 | 0, _, _, _, _, _, _, _, _, _, _, _, _, _, _, _, _ => none
 | n + 1, p0, p1, p2, p3, p4, p5, p6, p7, p8, p9, p10, p11, p12, p13, p14, p15 =>
 bif (decide (p0 < (p2.length : Int))) then
 bif ((decide ((0 : Int) ≤ p0)) && (decide (p0 < (p2.length : Int)))) then
 (f_spec_l3Copy ((p2.getD p0.toNat (0, [], false)).1) ((p2.getD p0.toNat (0, [], false)).2.1) ((p2.getD p0.toNat (0, [], false)).2.2)).bind fun y16 =>
 bif (Nat.blt (p12.length + ([(y16.1, y16.2.1, y16.2.2)] : tyF).length) 3518437208883) then
 (some ((p12 ++ ([(y16.1, y16.2.1, y16.2.2)] : tyF)) : tyF)).bind fun z17 =>
 f_spec_l5Copy.l0 n (IntKind.wrap .i64 (p0 + (1 : Int))) p1 p2 p3 p4 p5 p6 p7 p8 p9 p10 p11 z17 p13 p14 p15
 else none
 else none
 else
 some (p1, p2, p3, p4, p5, p6, p7, p8, p9, p10, p11, p12, p13, p14, p15)
noncomputable def f_spec_l5Copy (x0 : Int) (x1 : tyF) (x2 : tyH) (x3 : tyS) (x4 : List Int) : Option (Int × tyF × tyH × tyS × List Int) :=
 bif (Nat.blt (([] : List Int).length + x4.length) 17592186044416) then
 (some ((([] : List Int) ++ x4) : List Int)).bind fun z0 =>
 (f_spec_l5Copy.l0 N 0 x0 x1 x2 x3 x4 0 x0 ([] : tyF) ([] : tyH) ([] : tyS) ([] : List Int) ([] : tyF) ([] : tyH) ([] : tyS) z0).bind fun r1 =>
 (f_spec_l5Copy.l1 N 0 r1.1 r1.2.1 r1.2.2.1 r1.2.2.2.1 r1.2.2.2.2.1 r1.2.2.2.2.2.1 r1.2.2.2.2.2.2.1 r1.2.2.2.2.2.2.2.1 r1.2.2.2.2.2.2.2.2.1 r1.2.2.2.2.2.2.2.2.2.1 r1.2.2.2.2.2.2.2.2.2.2.1 r1.2.2.2.2.2.2.2.2.2.2.2.1 r1.2.2.2.2.2.2.2.2.2.2.2.2.1 r1.2.2.2.2.2.2.2.2.2.2.2.2.2.1 r1.2.2.2.2.2.2.2.2.2.2.2.2.2.2).bind fun r2 =>
 (f_spec_l5Copy.l2 N 0 r2.1 r2.2.1 r2.2.2.1 r2.2.2.2.1 r2.2.2.2.2.1 r2.2.2.2.2.2.1 r2.2.2.2.2.2.2.1 r2.2.2.2.2.2.2.2.1 r2.2.2.2.2.2.2.2.2.1 r2.2.2.2.2.2.2.2.2.2.1 r2.2.2.2.2.2.2.2.2.2.2.1 r2.2.2.2.2.2.2.2.2.2.2.2.1 r2.2.2.2.2.2.2.2.2.2.2.2.2.1 r2.2.2.2.2.2.2.2.2.2.2.2.2.2.1 r2.2.2.2.2.2.2.2.2.2.2.2.2.2.2).bind fun r3 =>
 some (r3.2.1, r3.2.2.2.2.2.2.1, r3.2.2.2.2.2.2.2.1, r3.2.2.2.2.2.2.2.2.1, r3.2.2.2.2.2.2.2.2.2)
 else none
noncomputable def C77 : Con := ⟨[(.B, true, [iI, (.sl R4), (.sl R5), (.sl R7), (.sl R1)])], [(true, [iI, (.sl R4), (.sl R5), (.sl R7), (.sl R1)])], [iI, (.sl R4), (.sl R5), (.sl R7), (.sl R1)], [iI, (.sl R4), (.sl R5), (.sl R7), (.sl R1)], ap5 f_spec_l5Copy⟩
noncomputable abbrev f_spec_l5Copy.l0.u (n : Nat) := ap16 (f_spec_l5Copy.l0 n)
noncomputable def f_spec_l5Copy.l0.c : LoopCon := ⟨1000, 6, [1, 2, 3, 4], ⟨[(1, .ptr 1000 0), (2, .ptr 1001 0), (3, .ptr 1002 0), (4, i0)], [(1000, .box [i0, bN R4, bN R5, bN R7, bN R1]), (1001, .box [i0, .ref 1003 [] none, .ref 1004 [] none, .ref 1005 [] none, .ref 1006 [] none]), (1002, .box [i0, .ref 1007 [] none, .ref 1008 [] none, .ref 1009 [] none, .ref 1010 [] none]), (1003, .row R4 []), (1004, .row R5 []), (1005, .row R7 []), (1006, .row R1 []), (1007, .row R4 []), (1008, .row R5 []), (1009, .row R7 []), (1010, .row R1 [])], 1011⟩, [iI, iI, (.sl R4), (.sl R5), (.sl R7), (.sl R1), iI, iI, (.sl R4), (.sl R5), (.sl R7), (.sl R1), (.sl R4), (.sl R5), (.sl R7), (.sl R1)], [⟨.exit 0, [1, 2, 3], ⟨[(1, .ptr 1000 0), (2, .ptr 1001 0), (3, .ptr 1002 0)], [(1000, .box [i0, bN R4, bN R5, bN R7, bN R1]), (1001, .box [i0, .ref 1003 [] none, .ref 1004 [] none, .ref 1005 [] none, .ref 1006 [] none]), (1002, .box [i0, .ref 1007 [] none, .ref 1008 [] none, .ref 1009 [] none, .ref 1010 [] none]), (1003, .row R4 []), (1004, .row R5 []), (1005, .row R7 []), (1006, .row R1 []), (1007, .row R4 []), (1008, .row R5 []), (1009, .row R7 []), (1010, .row R1 [])], 1011⟩, [iI, (.sl R4), (.sl R5), (.sl R7), (.sl R1), iI, iI, (.sl R4), (.sl R5), (.sl R7), (.sl R1), (.sl R4), (.sl R5), (.sl R7), (.sl R1)]⟩], f_spec_l5Copy.l0.u N⟩
noncomputable abbrev f_spec_l5Copy.l1.u (n : Nat) := ap16 (f_spec_l5Copy.l1 n)
noncomputable def f_spec_l5Copy.l1.c : LoopCon := ⟨1000, 6, [1, 2, 3, 5], ⟨[(1, .ptr 1000 0), (2, .ptr 1001 0), (3, .ptr 1002 0), (5, i0)], [(1000, .box [i0, bN R4, bN R5, bN R7, bN R1]), (1001, .box [i0, .ref 1003 [] none, .ref 1004 [] none, .ref 1005 [] none, .ref 1006 [] none]), (1002, .box [i0, .ref 1007 [] none, .ref 1008 [] none, .ref 1009 [] none, .ref 1010 [] none]), (1003, .row R4 []), (1004, .row R5 []), (1005, .row R7 []), (1006, .row R1 []), (1007, .row R4 []), (1008, .row R5 []), (1009, .row R7 []), (1010, .row R1 [])], 1011⟩, [iI, iI, (.sl R4), (.sl R5), (.sl R7), (.sl R1), iI, iI, (.sl R4), (.sl R5), (.sl R7), (.sl R1), (.sl R4), (.sl R5), (.sl R7), (.sl R1)], [⟨.exit 2, [1, 2, 3], ⟨[(1, .ptr 1000 0), (2, .ptr 1001 0), (3, .ptr 1002 0)], [(1000, .box [i0, bN R4, bN R5, bN R7, bN R1]), (1001, .box [i0, .ref 1003 [] none, .ref 1004 [] none, .ref 1005 [] none, .ref 1006 [] none]), (1002, .box [i0, .ref 1007 [] none, .ref 1008 [] none, .ref 1009 [] none, .ref 1010 [] none]), (1003, .row R4 []), (1004, .row R5 []), (1005, .row R7 []), (1006, .row R1 []), (1007, .row R4 []), (1008, .row R5 []), (1009, .row R7 []), (1010, .row R1 [])], 1011⟩, [iI, (.sl R4), (.sl R5), (.sl R7), (.sl R1), iI, iI, (.sl R4), (.sl R5), (.sl R7), (.sl R1), (.sl R4), (.sl R5), (.sl R7), (.sl R1)]⟩], f_spec_l5Copy.l1.u N⟩
noncomputable abbrev f_spec_l5Copy.l2.u (n : Nat) := ap16 (f_spec_l5Copy.l2 n)
noncomputable def f_spec_l5Copy.l2.c : LoopCon := ⟨1000, 6, [1, 2, 3, 6], ⟨[(1, .ptr 1000 0), (2, .ptr 1001 0), (3, .ptr 1002 0), (6, i0)], [(1000, .box [i0, bN R4, bN R5, bN R7, bN R1]), (1001, .box [i0, .ref 1003 [] none, .ref 1004 [] none, .ref 1005 [] none, .ref 1006 [] none]), (1002, .box [i0, .ref 1007 [] none, .ref 1008 [] none, .ref 1009 [] none, .ref 1010 [] none]), (1003, .row R4 []), (1004, .row R5 []), (1005, .row R7 []), (1006, .row R1 []), (1007, .row R4 []), (1008, .row R5 []), (1009, .row R7 []), (1010, .row R1 [])], 1011⟩, [iI, iI, (.sl R4), (.sl R5), (.sl R7), (.sl R1), iI, iI, (.sl R4), (.sl R5), (.sl R7), (.sl R1), (.sl R4), (.sl R5), (.sl R7), (.sl R1)], [⟨.exit 4, [2, 3], ⟨[(2, .ptr 1000 0), (3, .ptr 1001 0)], [(1000, .box [i0, .ref 1002 [] none, .ref 1003 [] none, .ref 1004 [] none, .ref 1005 [] none]), (1001, .box [i0, .ref 1006 [] none, .ref 1007 [] none, .ref 1008 [] none, .ref 1009 [] none]), (1002, .row R4 []), (1003, .row R5 []), (1004, .row R7 []), (1005, .row R1 []), (1006, .row R4 []), (1007, .row R5 []), (1008, .row R7 []), (1009, .row R1 [])], 1010⟩, [iI, iI, (.sl R4), (.sl R5), (.sl R7), (.sl R1), (.sl R4), (.sl R5), (.sl R7), (.sl R1)]⟩], f_spec_l5Copy.l2.u N⟩
noncomputable abbrev K77 : Cons := [(137, C137), (138, C138), (139, C139)]
noncomputable abbrev L77 : List (Nat × Loops) := [(77, [(3, f_spec_l5Copy.l0.c), (7, f_spec_l5Copy.l1.c), (11, f_spec_l5Copy.l2.c)])]
noncomputable abbrev X77 : Nat → Ctx := ctxOf tb K77 L77 Qe
theorem f_spec_l5Copy.l0.ok : ∀ n p, f_spec_l5Copy.l0.u n p = iterD (roundOf fs X77 6 77 3 false f_spec_l5Copy.l0.c) n p :=
 iter_of (l := f_spec_l5Copy.l0.u) (fun _ => rfl) (fun n p => by kernel_rfl)
theorem f_spec_l5Copy.l1.ok : ∀ n p, f_spec_l5Copy.l1.u n p = iterD (roundOf fs X77 6 77 7 false f_spec_l5Copy.l1.c) n p :=
 iter_of (l := f_spec_l5Copy.l1.u) (fun _ => rfl) (fun n p => by kernel_rfl)
theorem f_spec_l5Copy.l2.ok : ∀ n p, f_spec_l5Copy.l2.u n p = iterD (roundOf fs X77 6 77 11 false f_spec_l5Copy.l2.c) n p :=
 iter_of (l := f_spec_l5Copy.l2.u) (fun _ => rfl) (fun n p => by kernel_rfl)
theorem E77 : ∀ x, funRun fs X77 6 77 C77 x = C77.fn x := fun x => by kernel_rfl
theorem B77 : ConB Tryz.prog 77 C77 := ConB.make FS MIX TY (cons := K77) (L := L77) (ptrs := Qe) ⟨S137, S138, S139, trivial⟩ trivial ⟨⟨⟨N, fun p => f_spec_l5Copy.l0.ok N p⟩, ⟨N, fun p => f_spec_l5Copy.l1.ok N p⟩, ⟨N, fun p => f_spec_l5Copy.l2.ok N p⟩, trivial⟩, trivial⟩ rfl rfl E77
theorem S77 : ConS Tryz.prog 77 C77 := B77.call rfl
noncomputable def f_spec_l6Packet (x0 : Int) (x1 : Int) (x2 : Bool) (x3 : Int) (x4 : Int) (x5 : Int) (x6 : Bool) (x7 : List Int) : Option (Int × Int × Bool × Int × Int × Int × Bool × List Int) :=
 (f_spec_l1Msg x4 x5 x6 x7).bind fun y0 =>
 some (x0, x1, x2, x3, y0.1, y0.2.1, y0.2.2.1, y0.2.2.2)
noncomputable def C78 : Con := ⟨[(.B, true, [iI, iI, .bool, iI, iI, iI, .bool, (.sl R1)])], [(true, [iI, iI, .bool, iI, iI, iI, .bool, (.sl R1)])], [iI, iI, .bool, iI, iI, iI, .bool, (.sl R1)], [iI, iI, .bool, iI, iI, iI, .bool, (.sl R1)], ap8 f_spec_l6Packet⟩
noncomputable abbrev K78 : Cons := [(140, C140)]
noncomputable abbrev X78 : Nat → Ctx := ctxOf tb K78 Le Qe
theorem E78 : ∀ x, funRun fs X78 6 78 C78 x = C78.fn x := fun x => by kernel_rfl
theorem B78 : ConB Tryz.prog 78 C78 := ConB.make FS MIX TY (cons := K78) (L := Le) (ptrs := Qe) ⟨S140, trivial⟩ trivial trivial rfl rfl E78
theorem S78 : ConS Tryz.prog 78 C78 := B78.call rfl
noncomputable def f_spec_l6Copy.l1 : Nat → Int → Int → tyN → tyP → Int → Int → tyN → tyP → tyN → tyP → Option (Int × Int × tyN × tyP × tyN × tyP)
 | 0, _, _, _, _, _, _, _, _, _, _ => none
 | n + 1, p0, p1, p2, p3, p4, p5, p6, p7, p8, p9 =>
 bif (decide (p0 < (p3.length : Int))) then
 bif ((decide ((0 : Int) ≤ p0)) && (decide (p0 < (p3.length : Int)))) then
 (f_spec_l6Packet ((p3.getD p0.toNat (0, 0, false, 0, 0, 0, false, [])).1) ((p3.getD p0.toNat (0, 0, false, 0, 0, 0, false, [])).2.1) ((p3.getD p0.toNat (0, 0, false, 0, 0, 0, false, [])).2.2.1) ((p3.getD p0.toNat (0, 0, false, 0, 0, 0, false, [])).2.2.2.1) ((p3.getD p0.toNat (0, 0, false, 0, 0, 0, false, [])).2.2.2.2.1) ((p3.getD p0.toNat (0, 0, false, 0, 0, 0, false, [])).2.2.2.2.2.1) ((p3.getD p0.toNat (0, 0, false, 0, 0, 0, false, [])).2.2.2.2.2.2.1) ((p3.getD p0.toNat (0, 0, false, 0, 0, 0, false, [])).2.2.2.2.2.2.2)).bind fun y10 =>
 bif (Nat.blt (p9.length + ([(y10.1, y10.2.1, y10.2.2.1, y10.2.2.2.1, y10.2.2.2.2.1, y10.2.2.2.2.2.1, y10.2.2.2.2.2.2.1, y10.2.2.2.2.2.2.2)] : tyP).length) 1759218604441) then
 (some ((p9 ++ ([(y10.1, y10.2.1, y10.2.2.1, y10.2.2.2.1, y10.2.2.2.2.1, y10.2.2.2.2.2.1, y10.2.2.2.2.2.2.1, y10.2.2.2.2.2.2.2)] : tyP)) : tyP)).bind fun z11 =>
 f_spec_l6Copy.l1 n (IntKind.wrap .i64 (p0 + (1 : Int))) p1 p2 p3 p4 p5 p6 p7 p8 z11
 else none
 else none
 else
 some (p4, p5, p6, p7, p8, p9)
noncomputable def f_spec_l6Copy.l0 : Nat → Int → Int → tyN → tyP → Int → Int → tyN → tyP → tyN → tyP → Option (Int × tyN × tyP × Int × Int × tyN × tyP × tyN × tyP)
 | 0, _, _, _, _, _, _, _, _, _, _ => none
 | n + 1, p0, p1, p2, p3, p4, p5, p6, p7, p8, p9 =>
 bif (decide (p0 < (p2.length : Int))) then
 bif ((decide ((0 : Int) ≤ p0)) && (decide (p0 < (p2.length : Int)))) then
 (f_spec_l5Copy ((p2.getD p0.toNat (0, [], [], [], [])).1) ((p2.getD p0.toNat (0, [], [], [], [])).2.1) ((p2.getD p0.toNat (0, [], [], [], [])).2.2.1) ((p2.getD p0.toNat (0, [], [], [], [])).2.2.2.1) ((p2.getD p0.toNat (0, [], [], [], [])).2.2.2.2)).bind fun y10 =>
 bif (Nat.blt (p8.length + ([(y10.1, y10.2.1, y10.2.2.1, y10.2.2.2.1, y10.2.2.2.2)] : tyN).length) 1353245080339) then
 (some ((p8 ++ ([(y10.1, y10.2.1, y10.2.2.1, y10.2.2.2.1, y10.2.2.2.2)] : tyN)) : tyN)).bind fun z11 =>
 f_spec_l6Copy.l0 n (IntKind.wrap .i64 (p0 + (1 : Int))) p1 p2 p3 p4 p5 p6 p7 z11 p9
 else none
 else none
 else
 some (p1, p2, p3, p4, p5, p6, p7, p8, p9)
noncomputable def f_spec_l6Copy (x0 : Int) (x1 : tyN) (x2 : tyP) : Option (Int × tyN × tyP) :=
 (f_spec_l6Copy.l0 N 0 x0 x1 x2 0 x0 ([] : tyN) ([] : tyP) ([] : tyN) ([] : tyP)).bind fun r0 =>
 (f_spec_l6Copy.l1 N 0 r0.1 r0.2.1 r0.2.2.1 r0.2.2.2.1 r0.2.2.2.2.1 r0.2.2.2.2.2.1 r0.2.2.2.2.2.2.1 r0.2.2.2.2.2.2.2.1 r0.2.2.2.2.2.2.2.2).bind fun r1 =>
 some (r1.2.1, r1.2.2.2.2.1, r1.2.2.2.2.2)
noncomputable def C42 : Con := ⟨[(.B, true, [iI, (.sl R8), (.sl R9)])], [(true, [iI, (.sl R8), (.sl R9)])], [iI, (.sl R8), (.sl R9)], [iI, (.sl R8), (.sl R9)], ap3 f_spec_l6Copy⟩
noncomputable abbrev f_spec_l6Copy.l0.u (n : Nat) := ap10 (f_spec_l6Copy.l0 n)
noncomputable def f_spec_l6Copy.l0.c : LoopCon := ⟨1000, 6, [1, 2, 3, 4], ⟨[(1, .ptr 1000 0), (2, .ptr 1001 0), (3, .ptr 1002 0), (4, i0)], [(1000, .box [i0, bN R8, bN R9]), (1001, .box [i0, .ref 1003 [] none, .ref 1004 [] none]), (1002, .box [i0, .ref 1005 [] none, .ref 1006 [] none]), (1003, .row R8 []), (1004, .row R9 []), (1005, .row R8 []), (1006, .row R9 [])], 1007⟩, [iI, iI, (.sl R8), (.sl R9), iI, iI, (.sl R8), (.sl R9), (.sl R8), (.sl R9)], [⟨.exit 0, [1, 2, 3], ⟨[(1, .ptr 1000 0), (2, .ptr 1001 0), (3, .ptr 1002 0)], [(1000, .box [i0, bN R8, bN R9]), (1001, .box [i0, .ref 1003 [] none, .ref 1004 [] none]), (1002, .box [i0, .ref 1005 [] none, .ref 1006 [] none]), (1003, .row R8 []), (1004, .row R9 []), (1005, .row R8 []), (1006, .row R9 [])], 1007⟩, [iI, (.sl R8), (.sl R9), iI, iI, (.sl R8), (.sl R9), (.sl R8), (.sl R9)]⟩], f_spec_l6Copy.l0.u N⟩
noncomputable abbrev f_spec_l6Copy.l1.u (n : Nat) := ap10 (f_spec_l6Copy.l1 n)
noncomputable def f_spec_l6Copy.l1.c : LoopCon := ⟨1000, 6, [1, 2, 3, 5], ⟨[(1, .ptr 1000 0), (2, .ptr 1001 0), (3, .ptr 1002 0), (5, i0)], [(1000, .box [i0, bN R8, bN R9]), (1001, .box [i0, .ref 1003 [] none, .ref 1004 [] none]), (1002, .box [i0, .ref 1005 [] none, .ref 1006 [] none]), (1003, .row R8 []), (1004, .row R9 []), (1005, .row R8 []), (1006, .row R9 [])], 1007⟩, [iI, iI, (.sl R8), (.sl R9), iI, iI, (.sl R8), (.sl R9), (.sl R8), (.sl R9)], [⟨.exit 2, [2, 3], ⟨[(2, .ptr 1000 0), (3, .ptr 1001 0)], [(1000, .box [i0, .ref 1002 [] none, .ref 1003 [] none]), (1001, .box [i0, .ref 1004 [] none, .ref 1005 [] none]), (1002, .row R8 []), (1003, .row R9 []), (1004, .row R8 []), (1005, .row R9 [])], 1006⟩, [iI, iI, (.sl R8), (.sl R9), (.sl R8), (.sl R9)]⟩], f_spec_l6Copy.l1.u N⟩
noncomputable abbrev K42 : Cons := [(77, C77), (78, C78)]
noncomputable abbrev L42 : List (Nat × Loops) := [(42, [(3, f_spec_l6Copy.l0.c), (7, f_spec_l6Copy.l1.c)])]
noncomputable abbrev X42 : Nat → Ctx := ctxOf tb K42 L42 Qe
theorem f_spec_l6Copy.l0.ok : ∀ n p, f_spec_l6Copy.l0.u n p = iterD (roundOf fs X42 6 42 3 false f_spec_l6Copy.l0.c) n p :=
 iter_of (l := f_spec_l6Copy.l0.u) (fun _ => rfl) (fun n p => by kernel_rfl)
theorem f_spec_l6Copy.l1.ok : ∀ n p, f_spec_l6Copy.l1.u n p = iterD (roundOf fs X42 6 42 7 false f_spec_l6Copy.l1.c) n p :=
 iter_of (l := f_spec_l6Copy.l1.u) (fun _ => rfl) (fun n p => by kernel_rfl)
theorem E42 : ∀ x, funRun fs X42 6 42 C42 x = C42.fn x := fun x => by kernel_rfl
theorem B42 : ConB Tryz.prog 42 C42 := ConB.make FS MIX TY (cons := K42) (L := L42) (ptrs := Qe) ⟨S77, S78, trivial⟩ trivial ⟨⟨⟨N, fun p => f_spec_l6Copy.l0.ok N p⟩, ⟨N, fun p => f_spec_l6Copy.l1.ok N p⟩, trivial⟩, trivial⟩ rfl rfl E42
theorem S42 : ConS Tryz.prog 42 C42 := B42.call rfl
noncomputable def f_spec_Acked (x0 : Int) (x1 : tyM) (x2 : Int) : Option (Int × tyM) :=
 (f_spec_l2Sender x0 x1).bind fun y0 =>
 (f_spec_SenderOk x0 x1).bind fun y1 =>
 bif (!y1) then
 some (y0.1, y0.2)
 else
 bif (decide (x2 ≤ x0)) then
 some (y0.1, y0.2)
 else
 bif (decide ((IntKind.wrap .i64 (x0 + (x1.length : Int))) < x2)) then
 some (y0.1, y0.2)
 else
 bif ((decide ((0 : Int) ≤ (IntKind.wrap .i64 (x2 - x0)))) && (decide ((IntKind.wrap .i64 (x2 - x0)) ≤ (y0.2.length : Int)))) then
 bif (Nat.blt (([] : tyM).length + ((y0.2.drop (IntKind.wrap .i64 (x2 - x0)).toNat).take ((y0.2.length : Int) - (IntKind.wrap .i64 (x2 - x0))).toNat).length) 2932031007402) then
 (some ((([] : tyM) ++ ((y0.2.drop (IntKind.wrap .i64 (x2 - x0)).toNat).take ((y0.2.length : Int) - (IntKind.wrap .i64 (x2 - x0))).toNat)) : tyM)).bind fun z2 =>
 some (x2, z2)
 else none
 else none
noncomputable def C189 : Con := ⟨[(.B, true, [iI, (.sl R6)]), (.B, false, [iI])], [(true, [iI, (.sl R6)])], [iI, (.sl R6), iI], [iI, (.sl R6)], ap3 f_spec_Acked⟩
noncomputable abbrev K189 : Cons := [(106, C106), (139, C139)]
noncomputable abbrev X189 : Nat → Ctx := ctxOf tb K189 Le Qe
theorem E189 : ∀ x, funRun fs X189 6 189 C189 x = C189.fn x := fun x => by kernel_rfl
theorem B189 : ConB Tryz.prog 189 C189 := ConB.make FS MIX TY (cons := K189) (L := Le) (ptrs := Qe) ⟨S106, S139, trivial⟩ trivial trivial rfl rfl E189
theorem S189 : ConS Tryz.prog 189 C189 := B189.call rfl
noncomputable def f_spec_Arrived (x0 : Int) (x1 : Int) : Option (Int × Bool) :=
 bif (!(decide (x1 = x0))) then
 some (x0, false)
 else
 (f_spec_l1In x0 0 99999).bind fun y0 =>
 bif (!y0) then
 some (x0, false)
 else
 some ((IntKind.wrap .i64 (x0 + (1 : Int))), true)
noncomputable def C190 : Con := ⟨[(.B, true, [iI]), (.B, false, [iI])], [(true, [iI]), (false, [.bool])], [iI, iI], [iI, .bool], ap2 f_spec_Arrived⟩
noncomputable abbrev K190 : Cons := [(47, C47)]
noncomputable abbrev X190 : Nat → Ctx := ctxOf tb K190 Le Qe
theorem E190 : ∀ x, funRun fs X190 6 190 C190 x = C190.fn x := fun x => by kernel_rfl
theorem B190 : ConB Tryz.prog 190 C190 := ConB.make FS MIX TY (cons := K190) (L := Le) (ptrs := Qe) ⟨S47, trivial⟩ trivial trivial rfl rfl E190
theorem S190 : ConS Tryz.prog 190 C190 := B190.call rfl
noncomputable def f_spec_l4Tell (x0 : List Int) (x1 : Int) (x2 : List Bool) (x3 : Bool) (x4 : Int) (x5 : Bool) (x6 : Int) (x7 : tyW) (x8 : Int) (x9 : tyT) (x10 : Int) (x11 : Int) (x12 : Int) (x13 : Bool) (x14 : List Int) : Option (List Int × Int × List Bool × Bool × Int × Bool × Int × tyW × Int × tyT) :=
 bif (Nat.blt (x9.length + ([(x10, x11, x8, x13, x14)] : tyT).length) 2513169434916) then
 (some ((x9 ++ ([(x10, x11, x8, x13, x14)] : tyT)) : tyT)).bind fun z0 =>
 some (x0, x1, x2, x3, x4, x5, x6, x7, x8, z0)
 else none
noncomputable def C231 : Con := ⟨[(.P [true, true, true, true, true, true, true, true, true, true], false, [(.sl R1), iI, (.sl R2), .bool, iI, .bool, iI, (.sl R3), iI, (.sl R10)]), (.B, false, [iI]), (.M, true, [iI, iI, .bool, (.sl R1)])], [], [(.sl R1), iI, (.sl R2), .bool, iI, .bool, iI, (.sl R3), iI, (.sl R10), iI, iI, iI, .bool, (.sl R1)], [(.sl R1), iI, (.sl R2), .bool, iI, .bool, iI, (.sl R3), iI, (.sl R10)], ap15 f_spec_l4Tell⟩
noncomputable abbrev X231 : Nat → Ctx := ctxOf tb Ke Le Qe
theorem E231 : ∀ x, funG fs X231 6 231 C231 x = C231.fn x := fun x => by kernel_rfl
theorem B231 : ConG Tryz.prog 231 C231 := ConG.make FS MIX TY (cons := Ke) (L := Le) (ptrs := Qe) trivial trivial trivial rfl (by kernel_rfl) E231
theorem S231 : ConS Tryz.prog 231 C231 := B231.call (by kernel_rfl)
noncomputable def f_spec_l4Give (x0 : List Int) (x1 : Int) (x2 : List Bool) (x3 : Bool) (x4 : Int) (x5 : Bool) (x6 : Int) (x7 : tyW) (x8 : Int) (x9 : tyT) : Option (List Int × Int × List Bool × Bool × Int × Bool × Int × tyW × Int × tyT) :=
 bif (Nat.blt (([] : List Int).length + x0.length) 17592186044416) then
 (some ((([] : List Int) ++ x0) : List Int)).bind fun z0 =>
 (f_spec_l4Tell x0 x1 x2 x3 x4 x5 x6 x7 x8 x9 x4 3 0 x5 z0).bind fun y1 =>
 bif ((decide ((0 : Int) ≤ x4)) && (decide (x4 < (y1.2.2.1.length : Int)))) then
 (some ((y1.2.2.1.set x4.toNat (!x5)) : List Bool)).bind fun z2 =>
 bif x5 then
 some (y1.1, x4, z2, false, 0, false, y1.2.2.2.2.2.2.1, y1.2.2.2.2.2.2.2.1, y1.2.2.2.2.2.2.2.2.1, y1.2.2.2.2.2.2.2.2.2)
 else
 some (y1.1, y1.2.1, z2, false, 0, false, y1.2.2.2.2.2.2.1, y1.2.2.2.2.2.2.2.1, y1.2.2.2.2.2.2.2.2.1, y1.2.2.2.2.2.2.2.2.2)
 else none
 else none
noncomputable def C230 : Con := ⟨[(.P [true, true, true, true, true, true, true, true, true, true], false, [(.sl R1), iI, (.sl R2), .bool, iI, .bool, iI, (.sl R3), iI, (.sl R10)])], [], [(.sl R1), iI, (.sl R2), .bool, iI, .bool, iI, (.sl R3), iI, (.sl R10)], [(.sl R1), iI, (.sl R2), .bool, iI, .bool, iI, (.sl R3), iI, (.sl R10)], ap10 f_spec_l4Give⟩
noncomputable abbrev K230 : Cons := [(231, C231)]
noncomputable abbrev X230 : Nat → Ctx := ctxOf tb K230 Le Qe
theorem E230 : ∀ x, funG fs X230 6 230 C230 x = C230.fn x := fun x => by kernel_rfl
theorem B230 : ConG Tryz.prog 230 C230 := ConG.make FS MIX TY (cons := K230) (L := Le) (ptrs := Qe) ⟨S231, trivial⟩ trivial trivial rfl (by kernel_rfl) E230
theorem S230 : ConS Tryz.prog 230 C230 := B230.call (by kernel_rfl)
noncomputable def f_spec_l4Hear (x0 : List Int) (x1 : Int) (x2 : List Bool) (x3 : Bool) (x4 : Int) (x5 : Bool) (x6 : Int) (x7 : tyW) (x8 : Int) (x9 : tyT) (x10 : Int) (x11 : Int) (x12 : Int) (x13 : Bool) (x14 : List Int) : Option (Bool × List Int × Int × List Bool × Bool × Int × Bool × Int × tyW × Int × tyT) :=
 bif (decide (x11 = (1 : Int))) then
 bif (decide ((x7.length : Int) = (12 : Int))) then
 some (false, x0, x1, x2, x3, x4, x5, x6, x7, x8, x9)
 else
 bif (Nat.blt (x7.length + ([(x10, (decide (x11 = (2 : Int))))] : tyW).length) 8796093022208) then
 (some ((x7 ++ ([(x10, (decide (x11 = (2 : Int))))] : tyW)) : tyW)).bind fun z0 =>
 some (true, x0, x1, x2, x3, x4, x5, x6, z0, x8, x9)
 else none
 else
 bif (decide (x11 = (2 : Int))) then
 bif (decide ((x7.length : Int) = (12 : Int))) then
 some (false, x0, x1, x2, x3, x4, x5, x6, x7, x8, x9)
 else
 bif (Nat.blt (x7.length + ([(x10, (decide (x11 = (2 : Int))))] : tyW).length) 8796093022208) then
 (some ((x7 ++ ([(x10, (decide (x11 = (2 : Int))))] : tyW)) : tyW)).bind fun z1 =>
 some (true, x0, x1, x2, x3, x4, x5, x6, z1, x8, x9)
 else none
 else
 bif (decide (x11 = (5 : Int))) then
 bif (!x3) then
 some (false, x0, x1, x2, x3, x4, x5, x6, x7, x8, x9)
 else
 bif (decide (x6 = (0 : Int))) then
 some (false, x0, x1, x2, x3, x4, x5, x6, x7, x8, x9)
 else
 bif (decide ((IntKind.wrap .i64 (x6 - (1 : Int))) = (0 : Int))) then
 (f_spec_l4Give x0 x1 x2 x3 x4 x5 (IntKind.wrap .i64 (x6 - (1 : Int))) x7 x8 x9).bind fun y2 =>
 some (true, y2.1, y2.2.1, y2.2.2.1, y2.2.2.2.1, y2.2.2.2.2.1, y2.2.2.2.2.2.1, y2.2.2.2.2.2.2.1, y2.2.2.2.2.2.2.2.1, y2.2.2.2.2.2.2.2.2.1, y2.2.2.2.2.2.2.2.2.2)
 else
 some (true, x0, x1, x2, x3, x4, x5, (IntKind.wrap .i64 (x6 - (1 : Int))), x7, x8, x9)
 else
 bif (decide (x11 = (7 : Int))) then
 bif (!x3) then
 some (false, x0, x1, x2, x3, x4, x5, x6, x7, x8, x9)
 else
 bif (decide ((0 : Int) < x6)) then
 some (false, x0, x1, x2, x3, x4, x5, x6, x7, x8, x9)
 else
 bif (!(decide (x10 = x1))) then
 some (false, x0, x1, x2, x3, x4, x5, x6, x7, x8, x9)
 else
 bif (Nat.blt (([] : List Int).length + x14.length) 17592186044416) then
 (some ((([] : List Int) ++ x14) : List Int)).bind fun z3 =>
 bif ((decide ((0 : Int) ≤ x10)) && (decide (x10 < (x2.length : Int)))) then
 (some ((x2.set x10.toNat (!x5)) : List Bool)).bind fun z4 =>
 (f_spec_l4Give z3 (-1) z4 x3 x4 x5 x6 x7 x8 x9).bind fun y5 =>
 some (true, y5.1, y5.2.1, y5.2.2.1, y5.2.2.2.1, y5.2.2.2.2.1, y5.2.2.2.2.2.1, y5.2.2.2.2.2.2.1, y5.2.2.2.2.2.2.2.1, y5.2.2.2.2.2.2.2.2.1, y5.2.2.2.2.2.2.2.2.2)
 else none
 else none
 else
 some (false, x0, x1, x2, x3, x4, x5, x6, x7, x8, x9)
noncomputable def C212 : Con := ⟨[(.P [true, true, true, true, true, true, true, true, true, true], false, [(.sl R1), iI, (.sl R2), .bool, iI, .bool, iI, (.sl R3), iI, (.sl R10)]), (.B, false, [iI]), (.B, true, [iI, iI, .bool, (.sl R1)])], [(false, [.bool])], [(.sl R1), iI, (.sl R2), .bool, iI, .bool, iI, (.sl R3), iI, (.sl R10), iI, iI, iI, .bool, (.sl R1)], [.bool, (.sl R1), iI, (.sl R2), .bool, iI, .bool, iI, (.sl R3), iI, (.sl R10)], ap15 f_spec_l4Hear⟩
noncomputable abbrev K212 : Cons := [(230, C230)]
noncomputable abbrev X212 : Nat → Ctx := ctxOf tb K212 Le Qe
theorem E212 : ∀ x, funG fs X212 6 212 C212 x = C212.fn x := fun x => by kernel_rfl
theorem B212 : ConG Tryz.prog 212 C212 := ConG.make FS MIX TY (cons := K212) (L := Le) (ptrs := Qe) ⟨S230, trivial⟩ trivial trivial rfl (by kernel_rfl) E212
theorem S212 : ConS Tryz.prog 212 C212 := B212.call (by kernel_rfl)
noncomputable def f_spec_l4Next.l0 : Nat → Int → Int → Bool → Int → Bool → Int → Int → (List Int) → (List Bool) → tyW → tyT → Option (Int × Bool × Int × Bool × Int × Int × List Int × List Bool × tyW × tyT)
 | 0, _, _, _, _, _, _, _, _, _, _, _ => none
 | n + 1, p0, p1, p2, p3, p4, p5, p6, p7, p8, p9, p10 =>
 bif (decide (p0 < (p8.length : Int))) then
 bif p4 then
 bif ((decide ((0 : Int) ≤ p0)) && (decide (p0 < (p8.length : Int)))) then
 bif (p8.getD p0.toNat false) then
 bif (!(decide (p0 = p3))) then
 (f_spec_l4Tell p7 p1 p8 p2 p3 p4 p5 p9 p6 p10 p0 4 0 false []).bind fun y11 =>
 bif ((decide ((0 : Int) ≤ p0)) && (decide (p0 < (y11.2.2.1.length : Int)))) then
 (some ((y11.2.2.1.set p0.toNat false) : List Bool)).bind fun z12 =>
 f_spec_l4Next.l0 n (IntKind.wrap .i64 (p0 + (1 : Int))) y11.2.1 y11.2.2.2.1 y11.2.2.2.2.1 y11.2.2.2.2.2.1 (IntKind.wrap .i64 (y11.2.2.2.2.2.2.1 + (1 : Int))) y11.2.2.2.2.2.2.2.2.1 y11.1 z12 y11.2.2.2.2.2.2.2.1 y11.2.2.2.2.2.2.2.2.2
 else none
 else
 f_spec_l4Next.l0 n (IntKind.wrap .i64 (p0 + (1 : Int))) p1 p2 p3 p4 p5 p6 p7 p8 p9 p10
 else
 f_spec_l4Next.l0 n (IntKind.wrap .i64 (p0 + (1 : Int))) p1 p2 p3 p4 p5 p6 p7 p8 p9 p10
 else none
 else
 some (p1, p2, p3, p4, p5, p6, p7, p8, p9, p10)
 else
 some (p1, p2, p3, p4, p5, p6, p7, p8, p9, p10)
noncomputable def f_spec_l4Next (x0 : List Int) (x1 : Int) (x2 : List Bool) (x3 : Bool) (x4 : Int) (x5 : Bool) (x6 : Int) (x7 : tyW) (x8 : Int) (x9 : tyT) : Option (List Int × Int × List Bool × Bool × Int × Bool × Int × tyW × Int × tyT) :=
 bif (decide ((0 : Int) < (x7.length : Int))) then
 bif (decide ((1 : Int) ≤ (x7.length : Int))) then
 bif (Nat.blt (([] : tyW).length + ((x7.drop 1).take ((x7.length : Int) - (1 : Int)).toNat).length) 8796093022208) then
 (some ((([] : tyW) ++ ((x7.drop 1).take ((x7.length : Int) - (1 : Int)).toNat)) : tyW)).bind fun z0 =>
 bif (decide ((0 : Int) ≤ x1)) then
 (f_spec_l4Tell x0 x1 x2 true ((x7.getD 0 (0, false)).1) ((x7.getD 0 (0, false)).2) x6 z0 x8 x9 x1 6 0 ((x7.getD 0 (0, false)).2) []).bind fun y1 =>
 some (y1.1, y1.2.1, y1.2.2.1, y1.2.2.2.1, y1.2.2.2.2.1, y1.2.2.2.2.2.1, y1.2.2.2.2.2.2.1, y1.2.2.2.2.2.2.2.1, y1.2.2.2.2.2.2.2.2.1, y1.2.2.2.2.2.2.2.2.2)
 else
 (f_spec_l4Next.l0 N 0 x1 true ((x7.getD 0 (0, false)).1) ((x7.getD 0 (0, false)).2) 0 x8 x0 x2 z0 x9).bind fun r2 =>
 bif (decide (r2.2.2.2.2.1 = (0 : Int))) then
 (f_spec_l4Give r2.2.2.2.2.2.2.1 r2.1 r2.2.2.2.2.2.2.2.1 r2.2.1 r2.2.2.1 r2.2.2.2.1 r2.2.2.2.2.1 r2.2.2.2.2.2.2.2.2.1 r2.2.2.2.2.2.1 r2.2.2.2.2.2.2.2.2.2).bind fun y3 =>
 some (y3.1, y3.2.1, y3.2.2.1, y3.2.2.2.1, y3.2.2.2.2.1, y3.2.2.2.2.2.1, y3.2.2.2.2.2.2.1, y3.2.2.2.2.2.2.2.1, y3.2.2.2.2.2.2.2.2.1, y3.2.2.2.2.2.2.2.2.2)
 else
 some (r2.2.2.2.2.2.2.1, r2.1, r2.2.2.2.2.2.2.2.1, r2.2.1, r2.2.2.1, r2.2.2.2.1, r2.2.2.2.2.1, r2.2.2.2.2.2.2.2.2.1, r2.2.2.2.2.2.1, r2.2.2.2.2.2.2.2.2.2)
 else none
 else none
 else none
noncomputable def C213 : Con := ⟨[(.P [true, true, true, true, true, true, true, true, true, true], false, [(.sl R1), iI, (.sl R2), .bool, iI, .bool, iI, (.sl R3), iI, (.sl R10)])], [], [(.sl R1), iI, (.sl R2), .bool, iI, .bool, iI, (.sl R3), iI, (.sl R10)], [(.sl R1), iI, (.sl R2), .bool, iI, .bool, iI, (.sl R3), iI, (.sl R10)], ap10 f_spec_l4Next⟩
noncomputable abbrev f_spec_l4Next.l0.u (n : Nat) := ap11 (f_spec_l4Next.l0 n)
noncomputable def f_spec_l4Next.l0.c : LoopCon := ⟨1000, 6, [0, 2], ⟨[(0, .ptr 500 0), (2, i0)], [(500, .box [.ref 1000 [] none, i0, .ref 1001 [] none, .bool false, i0, .bool false, i0, .ref 1002 [] none, i0, .ref 1003 [] none]), (1000, .row R1 []), (1001, .row R2 []), (1002, .row R3 []), (1003, .row R10 [])], 1004⟩, [iI, iI, .bool, iI, .bool, iI, iI, (.sl R1), (.sl R2), (.sl R3), (.sl R10)], [⟨.exit 0, [0], ⟨[(0, .ptr 500 0)], [(500, .box [.ref 1000 [] none, i0, .ref 1001 [] none, .bool false, i0, .bool false, i0, .ref 1002 [] none, i0, .ref 1003 [] none]), (1000, .row R1 []), (1001, .row R2 []), (1002, .row R3 []), (1003, .row R10 [])], 1004⟩, [iI, .bool, iI, .bool, iI, iI, (.sl R1), (.sl R2), (.sl R3), (.sl R10)]⟩], f_spec_l4Next.l0.u N⟩
noncomputable abbrev K213 : Cons := [(230, C230), (231, C231)]
noncomputable abbrev L213 : List (Nat × Loops) := [(213, [(7, f_spec_l4Next.l0.c)])]
noncomputable abbrev X213 : Nat → Ctx := ctxOf tb K213 L213 Qe
theorem f_spec_l4Next.l0.ok : ∀ n p, f_spec_l4Next.l0.u n p = iterD (roundOf fs X213 6 213 7 false f_spec_l4Next.l0.c) n p :=
 iter_of (l := f_spec_l4Next.l0.u) (fun _ => rfl) (fun n p => by kernel_rfl)
theorem E213 : ∀ x, funG fs X213 6 213 C213 x = C213.fn x := fun x => by kernel_rfl
theorem B213 : ConG Tryz.prog 213 C213 := ConG.make FS MIX TY (cons := K213) (L := L213) (ptrs := Qe) ⟨S230, S231, trivial⟩ trivial ⟨⟨⟨N, fun p => f_spec_l4Next.l0.ok N p⟩, trivial⟩, trivial⟩ rfl (by kernel_rfl) E213
theorem S213 : ConS Tryz.prog 213 C213 := B213.call (by kernel_rfl)
noncomputable def f_spec_HomeHear.l0 : Nat → Int → Bool → Int → Bool → Int → Int → Bool → Int → Bool → Int → Int → (List Int) → (List Bool) → tyW → (List Int) → (List Bool) → tyW → tyT → Option (Int × Bool × Int × Bool × Int × Int × Bool × Int × Bool × Int × Int × List Int × List Bool × tyW × List Int × List Bool × tyW × tyT)
 | 0, _, _, _, _, _, _, _, _, _, _, _, _, _, _, _, _, _, _ => none
 | n + 1, p0, p1, p2, p3, p4, p5, p6, p7, p8, p9, p10, p11, p12, p13, p14, p15, p16, p17 =>
 bif (!p6) then
 bif (decide ((0 : Int) < (p16.length : Int))) then
 (f_spec_l4Next p14 p5 p15 p6 p7 p8 p9 p16 p10 p17).bind fun y18 =>
 f_spec_HomeHear.l0 n p0 p1 p2 p3 p4 y18.2.1 y18.2.2.2.1 y18.2.2.2.2.1 y18.2.2.2.2.2.1 y18.2.2.2.2.2.2.1 y18.2.2.2.2.2.2.2.2.1 p11 p12 p13 y18.1 y18.2.2.1 y18.2.2.2.2.2.2.2.1 y18.2.2.2.2.2.2.2.2.2
 else
 some (p0, p1, p2, p3, p4, p5, p6, p7, p8, p9, p10, p11, p12, p13, p14, p15, p16, p17)
 else
 some (p0, p1, p2, p3, p4, p5, p6, p7, p8, p9, p10, p11, p12, p13, p14, p15, p16, p17)
noncomputable def f_spec_HomeHear (x0 : List Int) (x1 : Int) (x2 : List Bool) (x3 : Bool) (x4 : Int) (x5 : Bool) (x6 : Int) (x7 : tyW) (x8 : Int) (x9 : Int) (x10 : Int) (x11 : Int) (x12 : Int) (x13 : Bool) (x14 : List Int) : Option (List Int × Int × List Bool × Bool × Int × Bool × Int × tyW × tyT) :=
 (f_spec_HomeOk x0 x1 x2 x3 x4 x5 x6 x7 x8).bind fun y0 =>
 bif (!y0) then
 (f_spec_l4Copy x0 x1 x2 x3 x4 x5 x6 x7).bind fun y1 =>
 some (y1.1, y1.2.1, y1.2.2.1, y1.2.2.2.1, y1.2.2.2.2.1, y1.2.2.2.2.2.1, y1.2.2.2.2.2.2.1, y1.2.2.2.2.2.2.2, ([] : tyT))
 else
 (f_spec_MsgOk x11 x12 x13 x14).bind fun y2 =>
 bif (!y2) then
 (f_spec_l4Copy x0 x1 x2 x3 x4 x5 x6 x7).bind fun y3 =>
 some (y3.1, y3.2.1, y3.2.2.1, y3.2.2.2.1, y3.2.2.2.2.1, y3.2.2.2.2.2.1, y3.2.2.2.2.2.2.1, y3.2.2.2.2.2.2.2, ([] : tyT))
 else
 (f_spec_l1In x10 0 (IntKind.wrap .i64 (x8 - (1 : Int)))).bind fun y4 =>
 bif (!y4) then
 (f_spec_l4Copy x0 x1 x2 x3 x4 x5 x6 x7).bind fun y5 =>
 some (y5.1, y5.2.1, y5.2.2.1, y5.2.2.2.1, y5.2.2.2.2.1, y5.2.2.2.2.2.1, y5.2.2.2.2.2.2.1, y5.2.2.2.2.2.2.2, ([] : tyT))
 else
 bif (!(decide (x12 = x9))) then
 (f_spec_l4Copy x0 x1 x2 x3 x4 x5 x6 x7).bind fun y6 =>
 some (y6.1, y6.2.1, y6.2.2.1, y6.2.2.2.1, y6.2.2.2.2.1, y6.2.2.2.2.2.1, y6.2.2.2.2.2.2.1, y6.2.2.2.2.2.2.2, ([] : tyT))
 else
 (f_spec_l4Copy x0 x1 x2 x3 x4 x5 x6 x7).bind fun y7 =>
 (f_spec_l4Hear y7.1 y7.2.1 y7.2.2.1 y7.2.2.2.1 y7.2.2.2.2.1 y7.2.2.2.2.2.1 y7.2.2.2.2.2.2.1 y7.2.2.2.2.2.2.2 x9 [] x10 x11 x12 x13 x14).bind fun y8 =>
 bif (!y8.1) then
 (f_spec_l4Copy x0 x1 x2 x3 x4 x5 x6 x7).bind fun y9 =>
 some (y9.1, y9.2.1, y9.2.2.1, y9.2.2.2.1, y9.2.2.2.2.1, y9.2.2.2.2.2.1, y9.2.2.2.2.2.2.1, y9.2.2.2.2.2.2.2, ([] : tyT))
 else
 (f_spec_HomeHear.l0 N 0 false 0 false 0 y8.2.2.1 y8.2.2.2.2.1 y8.2.2.2.2.2.1 y8.2.2.2.2.2.2.1 y8.2.2.2.2.2.2.2.1 y8.2.2.2.2.2.2.2.2.2.1 ([] : List Int) ([] : List Bool) ([] : tyW) y8.2.1 y8.2.2.2.1 y8.2.2.2.2.2.2.2.2.1 y8.2.2.2.2.2.2.2.2.2.2).bind fun r10 =>
 some (r10.2.2.2.2.2.2.2.2.2.2.2.2.2.2.1, r10.2.2.2.2.2.1, r10.2.2.2.2.2.2.2.2.2.2.2.2.2.2.2.1, r10.2.2.2.2.2.2.1, r10.2.2.2.2.2.2.2.1, r10.2.2.2.2.2.2.2.2.1, r10.2.2.2.2.2.2.2.2.2.1, r10.2.2.2.2.2.2.2.2.2.2.2.2.2.2.2.2.1, r10.2.2.2.2.2.2.2.2.2.2.2.2.2.2.2.2.2)
noncomputable def C188 : Con := ⟨[(.B, true, [(.sl R1), iI, (.sl R2), .bool, iI, .bool, iI, (.sl R3)]), (.B, false, [iI]), (.B, false, [iI]), (.B, false, [iI]), (.B, true, [iI, iI, .bool, (.sl R1)])], [(true, [(.sl R1), iI, (.sl R2), .bool, iI, .bool, iI, (.sl R3)]), (false, [(.sl R10)])], [(.sl R1), iI, (.sl R2), .bool, iI, .bool, iI, (.sl R3), iI, iI, iI, iI, iI, .bool, (.sl R1)], [(.sl R1), iI, (.sl R2), .bool, iI, .bool, iI, (.sl R3), (.sl R10)], ap15 f_spec_HomeHear⟩
noncomputable abbrev f_spec_HomeHear.l0.u (n : Nat) := ap18 (f_spec_HomeHear.l0 n)
noncomputable def f_spec_HomeHear.l0.c : LoopCon := ⟨1000, 6, [10, 11, 12], ⟨[(10, .ptr 1000 0), (11, .nil (some R10)), (12, .ptr 1001 0)], [(1000, .box [.ref 1002 [] none, i0, .ref 1003 [] none, .bool false, i0, .bool false, i0, .ref 1004 [] none]), (1001, .box [.ref 1005 [] none, i0, .ref 1006 [] none, .bool false, i0, .bool false, i0, .ref 1007 [] none, i0, .ref 1008 [] none]), (1002, .row R1 []), (1003, .row R2 []), (1004, .row R3 []), (1005, .row R1 []), (1006, .row R2 []), (1007, .row R3 []), (1008, .row R10 [])], 1009⟩, [iI, .bool, iI, .bool, iI, iI, .bool, iI, .bool, iI, iI, (.sl R1), (.sl R2), (.sl R3), (.sl R1), (.sl R2), (.sl R3), (.sl R10)], [⟨.exit 0, [10, 11, 12], ⟨[(10, .ptr 1000 0), (11, .nil (some R10)), (12, .ptr 1001 0)], [(1000, .box [.ref 1002 [] none, i0, .ref 1003 [] none, .bool false, i0, .bool false, i0, .ref 1004 [] none]), (1001, .box [.ref 1005 [] none, i0, .ref 1006 [] none, .bool false, i0, .bool false, i0, .ref 1007 [] none, i0, .ref 1008 [] none]), (1002, .row R1 []), (1003, .row R2 []), (1004, .row R3 []), (1005, .row R1 []), (1006, .row R2 []), (1007, .row R3 []), (1008, .row R10 [])], 1009⟩, [iI, .bool, iI, .bool, iI, iI, .bool, iI, .bool, iI, iI, (.sl R1), (.sl R2), (.sl R3), (.sl R1), (.sl R2), (.sl R3), (.sl R10)]⟩], f_spec_HomeHear.l0.u N⟩
noncomputable abbrev K188 : Cons := [(47, C47), (105, C105), (107, C107), (138, C138), (212, C212), (213, C213)]
noncomputable abbrev L188 : List (Nat × Loops) := [(188, [(6, f_spec_HomeHear.l0.c)])]
noncomputable abbrev X188 : Nat → Ctx := ctxOf tb K188 L188 Qe
theorem f_spec_HomeHear.l0.ok : ∀ n p, f_spec_HomeHear.l0.u n p = iterD (roundOf fs X188 6 188 6 false f_spec_HomeHear.l0.c) n p :=
 iter_of (l := f_spec_HomeHear.l0.u) (fun _ => rfl) (fun n p => by kernel_rfl)
theorem E188 : ∀ x, funRun fs X188 6 188 C188 x = C188.fn x := fun x => by kernel_rfl
theorem B188 : ConB Tryz.prog 188 C188 := ConB.make FS MIX TY (cons := K188) (L := L188) (ptrs := Qe) ⟨S47, S105, S107, S138, S212, S213, trivial⟩ trivial ⟨⟨⟨N, fun p => f_spec_HomeHear.l0.ok N p⟩, trivial⟩, trivial⟩ rfl rfl E188
theorem S188 : ConS Tryz.prog 188 C188 := B188.call rfl
noncomputable def f_spec_l1Bit (x0 : Bool) : Option (Int) :=
 bif x0 then
 some 1
 else
 some 0
noncomputable def C232 : Con := ⟨[(.B, false, [.bool])], [(false, [iI])], [.bool], [iI], fun (p : Bool) => f_spec_l1Bit p⟩
noncomputable abbrev X232 : Nat → Ctx := ctxOf tb Ke Le Qe
theorem E232 : ∀ x, funRun fs X232 6 232 C232 x = C232.fn x := fun x => by kernel_rfl
theorem B232 : ConB Tryz.prog 232 C232 := ConB.make FS MIX TY (cons := Ke) (L := Le) (ptrs := Qe) trivial trivial trivial rfl rfl E232
theorem S232 : ConS Tryz.prog 232 C232 := B232.call rfl
noncomputable def f_spec_FrameHear (x0 : Int) (x1 : List Int) (x2 : Bool) (x3 : Int) (x4 : Int) (x5 : Bool) (x6 : List Int) : Option (Int × List Int × Bool × Int × Int × Bool × List Int × Bool) :=
 (f_spec_l3Copy x0 x1 x2).bind fun y0 =>
 (f_spec_FrameOk x0 x1 x2).bind fun y1 =>
 bif (!y1) then
 some (y0.1, y0.2.1, y0.2.2, 0, 0, false, [], false)
 else
 (f_spec_MsgOk x3 x4 x5 x6).bind fun y2 =>
 bif (!y2) then
 some (y0.1, y0.2.1, y0.2.2, 0, 0, false, [], false)
 else
 bif (decide (x3 = (3 : Int))) then
 (f_spec_l1Bit x5).bind fun y3 =>
 bif (Nat.blt (([] : List Int).length + x6.length) 17592186044416) then
 (some ((([] : List Int) ++ x6) : List Int)).bind fun z4 =>
 some ((IntKind.wrap .i64 ((1 : Int) + y3)), z4, false, 0, 0, false, [], false)
 else none
 else
 bif (decide (x3 = (4 : Int))) then
 some (0, [], x2, 5, x4, false, [], true)
 else
 bif (decide (x3 = (6 : Int))) then
 bif (!(decide (x0 = (2 : Int)))) then
 some (y0.1, y0.2.1, y0.2.2, 0, 0, false, [], false)
 else
 bif (Nat.blt (([] : List Int).length + x1.length) 17592186044416) then
 (some ((([] : List Int) ++ x1) : List Int)).bind fun z5 =>
 bif x5 then
 some (0, [], x2, 7, x4, false, z5, true)
 else
 some (1, y0.2.1, y0.2.2, 7, x4, false, z5, true)
 else none
 else
 some (y0.1, y0.2.1, y0.2.2, 0, 0, false, [], false)
noncomputable def C214 : Con := ⟨[(.B, true, [iI, (.sl R1), .bool]), (.B, true, [iI, iI, .bool, (.sl R1)])], [(true, [iI, (.sl R1), .bool]), (true, [iI, iI, .bool, (.sl R1)]), (false, [.bool])], [iI, (.sl R1), .bool, iI, iI, .bool, (.sl R1)], [iI, (.sl R1), .bool, iI, iI, .bool, (.sl R1), .bool], ap7 f_spec_FrameHear⟩
noncomputable abbrev K214 : Cons := [(104, C104), (107, C107), (137, C137), (232, C232)]
noncomputable abbrev X214 : Nat → Ctx := ctxOf tb K214 Le Qe
theorem E214 : ∀ x, funRun fs X214 6 214 C214 x = C214.fn x := fun x => by kernel_rfl
theorem B214 : ConB Tryz.prog 214 C214 := ConB.make FS MIX TY (cons := K214) (L := Le) (ptrs := Qe) ⟨S104, S107, S137, S232, trivial⟩ trivial trivial rfl rfl E214
theorem S214 : ConS Tryz.prog 214 C214 := B214.call rfl
noncomputable def f_spec_Queue (x0 : Int) (x1 : tyM) (x2 : Int) (x3 : Int) (x4 : Bool) (x5 : List Int) : Option (Int × tyM × Bool) :=
 (f_spec_l2Sender x0 x1).bind fun y0 =>
 (f_spec_SenderOk x0 x1).bind fun y1 =>
 bif (!y1) then
 some (y0.1, y0.2, false)
 else
 (f_spec_MsgOk x2 x3 x4 x5).bind fun y2 =>
 bif (!y2) then
 some (y0.1, y0.2, false)
 else
 bif (decide ((x1.length : Int) = (30 : Int))) then
 some (y0.1, y0.2, false)
 else
 bif (decide ((IntKind.wrap .i64 (x0 + (x1.length : Int))) = (100000 : Int))) then
 some (y0.1, y0.2, false)
 else
 (f_spec_l1Msg x2 x3 x4 x5).bind fun y3 =>
 bif (Nat.blt (y0.2.length + ([(y3.1, y3.2.1, y3.2.2.1, y3.2.2.2)] : tyM).length) 2932031007402) then
 (some ((y0.2 ++ ([(y3.1, y3.2.1, y3.2.2.1, y3.2.2.2)] : tyM)) : tyM)).bind fun z4 =>
 some (y0.1, z4, true)
 else none
noncomputable def C147 : Con := ⟨[(.B, true, [iI, (.sl R6)]), (.B, true, [iI, iI, .bool, (.sl R1)])], [(true, [iI, (.sl R6)]), (false, [.bool])], [iI, (.sl R6), iI, iI, .bool, (.sl R1)], [iI, (.sl R6), .bool], ap6 f_spec_Queue⟩
noncomputable abbrev K147 : Cons := [(106, C106), (107, C107), (139, C139), (140, C140)]
noncomputable abbrev X147 : Nat → Ctx := ctxOf tb K147 Le Qe
theorem E147 : ∀ x, funRun fs X147 6 147 C147 x = C147.fn x := fun x => by kernel_rfl
theorem B147 : ConB Tryz.prog 147 C147 := ConB.make FS MIX TY (cons := K147) (L := Le) (ptrs := Qe) ⟨S106, S107, S139, S140, trivial⟩ trivial trivial rfl rfl E147
theorem S147 : ConS Tryz.prog 147 C147 := B147.call rfl
noncomputable def f_spec_l5Told.l0 : Nat → tyT → Bool → Int → Int → Int → tyF → tyH → tyS → (List Int) → tyF → tyH → tyS → (List Int) → Option ((Bool × Int × tyF × tyH × tyS × List Int) ⊕ (Bool × Int × Int × tyF × tyH × tyS × List Int × tyF × tyH × tyS × List Int))
 | 0, _, _, _, _, _, _, _, _, _, _, _, _, _ => none
 | n + 1, p0, p1, p2, p3, p4, p5, p6, p7, p8, p9, p10, p11, p12 =>
 bif (decide (p2 < (p0.length : Int))) then
 bif ((decide ((0 : Int) ≤ p2)) && (decide (p2 < (p0.length : Int)))) then
 bif ((decide ((0 : Int) ≤ ((p0.getD p2.toNat (0, 0, 0, false, [])).1))) && (decide (((p0.getD p2.toNat (0, 0, 0, false, [])).1) < (p7.length : Int)))) then
 bif ((decide ((0 : Int) ≤ p2)) && (decide (p2 < (p0.length : Int)))) then
 (f_spec_Queue ((p7.getD ((p0.getD p2.toNat (0, 0, 0, false, [])).1).toNat (0, [])).1) ((p7.getD ((p0.getD p2.toNat (0, 0, 0, false, [])).1).toNat (0, [])).2) ((p0.getD p2.toNat (0, 0, 0, false, [])).2.1) ((p0.getD p2.toNat (0, 0, 0, false, [])).2.2.1) ((p0.getD p2.toNat (0, 0, 0, false, [])).2.2.2.1) ((p0.getD p2.toNat (0, 0, 0, false, [])).2.2.2.2)).bind fun y13 =>
 bif (!y13.2.2) then
 some (.inl (false, p3, p5, p6, p7, p8))
 else
 bif ((decide ((0 : Int) ≤ p2)) && (decide (p2 < (p0.length : Int)))) then
 bif ((decide ((0 : Int) ≤ ((p0.getD p2.toNat (0, 0, 0, false, [])).1))) && (decide (((p0.getD p2.toNat (0, 0, 0, false, [])).1) < (p7.length : Int)))) then
 (some ((p7.set ((p0.getD p2.toNat (0, 0, 0, false, [])).1).toNat (y13.1, y13.2.1)) : tyS)).bind fun z14 =>
 f_spec_l5Told.l0 n p0 p1 (IntKind.wrap .i64 (p2 + (1 : Int))) p3 p4 p5 p6 z14 p8 p9 p10 p11 p12
 else none
 else none
 else none
 else none
 else none
 else
 some (.inr (p1, p3, p4, p5, p6, p7, p8, p9, p10, p11, p12))
noncomputable def f_spec_l5Told (x0 : Int) (x1 : tyF) (x2 : tyH) (x3 : tyS) (x4 : List Int) (x5 : tyT) : Option (Int × tyF × tyH × tyS × List Int × Bool) :=
 (f_spec_l5Told.l0 N x5 false 0 x0 0 x1 x2 x3 x4 ([] : tyF) ([] : tyH) ([] : tyS) ([] : List Int)).bind fun r0 =>
 cs r0 (fun a1 =>
 some (a1.2.1, a1.2.2.1, a1.2.2.2.1, a1.2.2.2.2.1, a1.2.2.2.2.2, a1.1)) (fun b2 =>
 some (b2.2.1, b2.2.2.2.1, b2.2.2.2.2.1, b2.2.2.2.2.2.1, b2.2.2.2.2.2.2.1, true))
noncomputable def C215 : Con := ⟨[(.M, true, [iI, (.sl R4), (.sl R5), (.sl R7), (.sl R1)]), (.B, false, [(.sl R10)])], [(true, [iI, (.sl R4), (.sl R5), (.sl R7), (.sl R1)]), (false, [.bool])], [iI, (.sl R4), (.sl R5), (.sl R7), (.sl R1), (.sl R10)], [iI, (.sl R4), (.sl R5), (.sl R7), (.sl R1), .bool], ap6 f_spec_l5Told⟩
noncomputable abbrev f_spec_l5Told.l0.u (n : Nat) := ap13 (f_spec_l5Told.l0 n)
noncomputable def f_spec_l5Told.l0.c : LoopCon := ⟨1000, 6, [1, 2, 4, 5, 6], ⟨[(1, bN R10), (2, .ptr 1000 0), (4, .ptr 1001 0), (5, .bool false), (6, i0)], [(1000, .box [i0, .ref 1002 [] none, .ref 1003 [] none, .ref 1004 [] none, .ref 1005 [] none]), (1001, .box [i0, .ref 1006 [] none, .ref 1007 [] none, .ref 1008 [] none, .ref 1009 [] none]), (1002, .row R4 []), (1003, .row R5 []), (1004, .row R7 []), (1005, .row R1 []), (1006, .row R4 []), (1007, .row R5 []), (1008, .row R7 []), (1009, .row R1 [])], 1010⟩, [(.sl R10), .bool, iI, iI, iI, (.sl R4), (.sl R5), (.sl R7), (.sl R1), (.sl R4), (.sl R5), (.sl R7), (.sl R1)], [⟨.ret, [4, 5], ⟨[(4, .ptr 1000 0), (5, .bool false)], [(1000, .box [i0, .ref 1001 [] none, .ref 1002 [] none, .ref 1003 [] none, .ref 1004 [] none]), (1001, .row R4 []), (1002, .row R5 []), (1003, .row R7 []), (1004, .row R1 [])], 1005⟩, [.bool, iI, (.sl R4), (.sl R5), (.sl R7), (.sl R1)]⟩, ⟨.exit 0, [2, 4, 5], ⟨[(2, .ptr 1000 0), (4, .ptr 1001 0), (5, .bool false)], [(1000, .box [i0, .ref 1002 [] none, .ref 1003 [] none, .ref 1004 [] none, .ref 1005 [] none]), (1001, .box [i0, .ref 1006 [] none, .ref 1007 [] none, .ref 1008 [] none, .ref 1009 [] none]), (1002, .row R4 []), (1003, .row R5 []), (1004, .row R7 []), (1005, .row R1 []), (1006, .row R4 []), (1007, .row R5 []), (1008, .row R7 []), (1009, .row R1 [])], 1010⟩, [.bool, iI, iI, (.sl R4), (.sl R5), (.sl R7), (.sl R1), (.sl R4), (.sl R5), (.sl R7), (.sl R1)]⟩], f_spec_l5Told.l0.u N⟩
noncomputable abbrev K215 : Cons := [(147, C147)]
noncomputable abbrev L215 : List (Nat × Loops) := [(215, [(2, f_spec_l5Told.l0.c)])]
noncomputable abbrev X215 : Nat → Ctx := ctxOf tb K215 L215 Qe
theorem f_spec_l5Told.l0.ok : ∀ n p, f_spec_l5Told.l0.u n p = iterD (roundOf fs X215 6 215 2 false f_spec_l5Told.l0.c) n p :=
 iter_of (l := f_spec_l5Told.l0.u) (fun _ => rfl) (fun n p => by kernel_rfl)
theorem E215 : ∀ x, funG fs X215 6 215 C215 x = C215.fn x := fun x => by kernel_rfl
theorem B215 : ConG Tryz.prog 215 C215 := ConG.make FS MIX TY (cons := K215) (L := L215) (ptrs := Qe) ⟨S147, trivial⟩ trivial ⟨⟨⟨N, fun p => f_spec_l5Told.l0.ok N p⟩, trivial⟩, trivial⟩ rfl (by kernel_rfl) E215
theorem S215 : ConS Tryz.prog 215 C215 := B215.call (by kernel_rfl)
noncomputable def f_spec_NodeHear (x0 : Int) (x1 : tyF) (x2 : tyH) (x3 : tyS) (x4 : List Int) (x5 : Int) (x6 : Int) (x7 : Int) (x8 : Int) (x9 : Bool) (x10 : List Int) : Option (Int × tyF × tyH × tyS × List Int × Bool) :=
 (f_spec_NodeOk x0 x1 x2 x3 x4 x5).bind fun y0 =>
 bif (!y0) then
 (f_spec_l5Copy x0 x1 x2 x3 x4).bind fun y1 =>
 some (y1.1, y1.2.1, y1.2.2.1, y1.2.2.2.1, y1.2.2.2.2, false)
 else
 (f_spec_MsgOk x7 x8 x9 x10).bind fun y2 =>
 bif (!y2) then
 (f_spec_l5Copy x0 x1 x2 x3 x4).bind fun y3 =>
 some (y3.1, y3.2.1, y3.2.2.1, y3.2.2.2.1, y3.2.2.2.2, false)
 else
 (f_spec_l1In x6 0 (IntKind.wrap .i64 (x5 - (1 : Int)))).bind fun y4 =>
 bif (!y4) then
 (f_spec_l5Copy x0 x1 x2 x3 x4).bind fun y5 =>
 some (y5.1, y5.2.1, y5.2.2.1, y5.2.2.2.1, y5.2.2.2.2, false)
 else
 (f_spec_l5Copy x0 x1 x2 x3 x4).bind fun y6 =>
 bif (decide (x5 = (0 : Int))) then none else
 bif (decide (x7 = (1 : Int))) then
 bif (decide ((Int.tmod x8 x5) = x0)) then
 bif ((decide ((0 : Int) ≤ x8)) && (decide (x8 < (x2.length : Int)))) then
 (f_spec_HomeHear ((x2.getD x8.toNat ([], 0, [], false, 0, false, 0, [])).1) ((x2.getD x8.toNat ([], 0, [], false, 0, false, 0, [])).2.1) ((x2.getD x8.toNat ([], 0, [], false, 0, false, 0, [])).2.2.1) ((x2.getD x8.toNat ([], 0, [], false, 0, false, 0, [])).2.2.2.1) ((x2.getD x8.toNat ([], 0, [], false, 0, false, 0, [])).2.2.2.2.1) ((x2.getD x8.toNat ([], 0, [], false, 0, false, 0, [])).2.2.2.2.2.1) ((x2.getD x8.toNat ([], 0, [], false, 0, false, 0, [])).2.2.2.2.2.2.1) ((x2.getD x8.toNat ([], 0, [], false, 0, false, 0, [])).2.2.2.2.2.2.2) x5 x8 x6 x7 x8 x9 x10).bind fun y7 =>
 bif ((decide ((0 : Int) ≤ x8)) && (decide (x8 < (y6.2.2.1.length : Int)))) then
 (some ((y6.2.2.1.set x8.toNat (y7.1, y7.2.1, y7.2.2.1, y7.2.2.2.1, y7.2.2.2.2.1, y7.2.2.2.2.2.1, y7.2.2.2.2.2.2.1, y7.2.2.2.2.2.2.2.1)) : tyH)).bind fun z8 =>
 (f_spec_l5Told y6.1 y6.2.1 z8 y6.2.2.2.1 y6.2.2.2.2 y7.2.2.2.2.2.2.2.2).bind fun y9 =>
 bif (!y9.2.2.2.2.2) then
 (f_spec_l5Copy x0 x1 x2 x3 x4).bind fun y10 =>
 some (y10.1, y10.2.1, y10.2.2.1, y10.2.2.2.1, y10.2.2.2.2, false)
 else
 some (y9.1, y9.2.1, y9.2.2.1, y9.2.2.2.1, y9.2.2.2.2.1, true)
 else none
 else none
 else
 (f_spec_l5Told y6.1 y6.2.1 y6.2.2.1 y6.2.2.2.1 y6.2.2.2.2 ([] : tyT)).bind fun y11 =>
 bif (!y11.2.2.2.2.2) then
 (f_spec_l5Copy x0 x1 x2 x3 x4).bind fun y12 =>
 some (y12.1, y12.2.1, y12.2.2.1, y12.2.2.2.1, y12.2.2.2.2, false)
 else
 some (y11.1, y11.2.1, y11.2.2.1, y11.2.2.2.1, y11.2.2.2.2.1, true)
 else
 bif (decide (x7 = (2 : Int))) then
 bif (decide ((Int.tmod x8 x5) = x0)) then
 bif ((decide ((0 : Int) ≤ x8)) && (decide (x8 < (x2.length : Int)))) then
 (f_spec_HomeHear ((x2.getD x8.toNat ([], 0, [], false, 0, false, 0, [])).1) ((x2.getD x8.toNat ([], 0, [], false, 0, false, 0, [])).2.1) ((x2.getD x8.toNat ([], 0, [], false, 0, false, 0, [])).2.2.1) ((x2.getD x8.toNat ([], 0, [], false, 0, false, 0, [])).2.2.2.1) ((x2.getD x8.toNat ([], 0, [], false, 0, false, 0, [])).2.2.2.2.1) ((x2.getD x8.toNat ([], 0, [], false, 0, false, 0, [])).2.2.2.2.2.1) ((x2.getD x8.toNat ([], 0, [], false, 0, false, 0, [])).2.2.2.2.2.2.1) ((x2.getD x8.toNat ([], 0, [], false, 0, false, 0, [])).2.2.2.2.2.2.2) x5 x8 x6 x7 x8 x9 x10).bind fun y13 =>
 bif ((decide ((0 : Int) ≤ x8)) && (decide (x8 < (y6.2.2.1.length : Int)))) then
 (some ((y6.2.2.1.set x8.toNat (y13.1, y13.2.1, y13.2.2.1, y13.2.2.2.1, y13.2.2.2.2.1, y13.2.2.2.2.2.1, y13.2.2.2.2.2.2.1, y13.2.2.2.2.2.2.2.1)) : tyH)).bind fun z14 =>
 (f_spec_l5Told y6.1 y6.2.1 z14 y6.2.2.2.1 y6.2.2.2.2 y13.2.2.2.2.2.2.2.2).bind fun y15 =>
 bif (!y15.2.2.2.2.2) then
 (f_spec_l5Copy x0 x1 x2 x3 x4).bind fun y16 =>
 some (y16.1, y16.2.1, y16.2.2.1, y16.2.2.2.1, y16.2.2.2.2, false)
 else
 some (y15.1, y15.2.1, y15.2.2.1, y15.2.2.2.1, y15.2.2.2.2.1, true)
 else none
 else none
 else
 (f_spec_l5Told y6.1 y6.2.1 y6.2.2.1 y6.2.2.2.1 y6.2.2.2.2 ([] : tyT)).bind fun y17 =>
 bif (!y17.2.2.2.2.2) then
 (f_spec_l5Copy x0 x1 x2 x3 x4).bind fun y18 =>
 some (y18.1, y18.2.1, y18.2.2.1, y18.2.2.2.1, y18.2.2.2.2, false)
 else
 some (y17.1, y17.2.1, y17.2.2.1, y17.2.2.2.1, y17.2.2.2.2.1, true)
 else
 bif (decide (x7 = (5 : Int))) then
 bif (decide ((Int.tmod x8 x5) = x0)) then
 bif ((decide ((0 : Int) ≤ x8)) && (decide (x8 < (x2.length : Int)))) then
 (f_spec_HomeHear ((x2.getD x8.toNat ([], 0, [], false, 0, false, 0, [])).1) ((x2.getD x8.toNat ([], 0, [], false, 0, false, 0, [])).2.1) ((x2.getD x8.toNat ([], 0, [], false, 0, false, 0, [])).2.2.1) ((x2.getD x8.toNat ([], 0, [], false, 0, false, 0, [])).2.2.2.1) ((x2.getD x8.toNat ([], 0, [], false, 0, false, 0, [])).2.2.2.2.1) ((x2.getD x8.toNat ([], 0, [], false, 0, false, 0, [])).2.2.2.2.2.1) ((x2.getD x8.toNat ([], 0, [], false, 0, false, 0, [])).2.2.2.2.2.2.1) ((x2.getD x8.toNat ([], 0, [], false, 0, false, 0, [])).2.2.2.2.2.2.2) x5 x8 x6 x7 x8 x9 x10).bind fun y19 =>
 bif ((decide ((0 : Int) ≤ x8)) && (decide (x8 < (y6.2.2.1.length : Int)))) then
 (some ((y6.2.2.1.set x8.toNat (y19.1, y19.2.1, y19.2.2.1, y19.2.2.2.1, y19.2.2.2.2.1, y19.2.2.2.2.2.1, y19.2.2.2.2.2.2.1, y19.2.2.2.2.2.2.2.1)) : tyH)).bind fun z20 =>
 (f_spec_l5Told y6.1 y6.2.1 z20 y6.2.2.2.1 y6.2.2.2.2 y19.2.2.2.2.2.2.2.2).bind fun y21 =>
 bif (!y21.2.2.2.2.2) then
 (f_spec_l5Copy x0 x1 x2 x3 x4).bind fun y22 =>
 some (y22.1, y22.2.1, y22.2.2.1, y22.2.2.2.1, y22.2.2.2.2, false)
 else
 some (y21.1, y21.2.1, y21.2.2.1, y21.2.2.2.1, y21.2.2.2.2.1, true)
 else none
 else none
 else
 (f_spec_l5Told y6.1 y6.2.1 y6.2.2.1 y6.2.2.2.1 y6.2.2.2.2 ([] : tyT)).bind fun y23 =>
 bif (!y23.2.2.2.2.2) then
 (f_spec_l5Copy x0 x1 x2 x3 x4).bind fun y24 =>
 some (y24.1, y24.2.1, y24.2.2.1, y24.2.2.2.1, y24.2.2.2.2, false)
 else
 some (y23.1, y23.2.1, y23.2.2.1, y23.2.2.2.1, y23.2.2.2.2.1, true)
 else
 bif (decide (x7 = (7 : Int))) then
 bif (decide ((Int.tmod x8 x5) = x0)) then
 bif ((decide ((0 : Int) ≤ x8)) && (decide (x8 < (x2.length : Int)))) then
 (f_spec_HomeHear ((x2.getD x8.toNat ([], 0, [], false, 0, false, 0, [])).1) ((x2.getD x8.toNat ([], 0, [], false, 0, false, 0, [])).2.1) ((x2.getD x8.toNat ([], 0, [], false, 0, false, 0, [])).2.2.1) ((x2.getD x8.toNat ([], 0, [], false, 0, false, 0, [])).2.2.2.1) ((x2.getD x8.toNat ([], 0, [], false, 0, false, 0, [])).2.2.2.2.1) ((x2.getD x8.toNat ([], 0, [], false, 0, false, 0, [])).2.2.2.2.2.1) ((x2.getD x8.toNat ([], 0, [], false, 0, false, 0, [])).2.2.2.2.2.2.1) ((x2.getD x8.toNat ([], 0, [], false, 0, false, 0, [])).2.2.2.2.2.2.2) x5 x8 x6 x7 x8 x9 x10).bind fun y25 =>
 bif ((decide ((0 : Int) ≤ x8)) && (decide (x8 < (y6.2.2.1.length : Int)))) then
 (some ((y6.2.2.1.set x8.toNat (y25.1, y25.2.1, y25.2.2.1, y25.2.2.2.1, y25.2.2.2.2.1, y25.2.2.2.2.2.1, y25.2.2.2.2.2.2.1, y25.2.2.2.2.2.2.2.1)) : tyH)).bind fun z26 =>
 (f_spec_l5Told y6.1 y6.2.1 z26 y6.2.2.2.1 y6.2.2.2.2 y25.2.2.2.2.2.2.2.2).bind fun y27 =>
 bif (!y27.2.2.2.2.2) then
 (f_spec_l5Copy x0 x1 x2 x3 x4).bind fun y28 =>
 some (y28.1, y28.2.1, y28.2.2.1, y28.2.2.2.1, y28.2.2.2.2, false)
 else
 some (y27.1, y27.2.1, y27.2.2.1, y27.2.2.2.1, y27.2.2.2.2.1, true)
 else none
 else none
 else
 (f_spec_l5Told y6.1 y6.2.1 y6.2.2.1 y6.2.2.2.1 y6.2.2.2.2 ([] : tyT)).bind fun y29 =>
 bif (!y29.2.2.2.2.2) then
 (f_spec_l5Copy x0 x1 x2 x3 x4).bind fun y30 =>
 some (y30.1, y30.2.1, y30.2.2.1, y30.2.2.2.1, y30.2.2.2.2, false)
 else
 some (y29.1, y29.2.1, y29.2.2.1, y29.2.2.2.1, y29.2.2.2.2.1, true)
 else
 bif (decide (x6 = (Int.tmod x8 x5))) then
 bif ((decide ((0 : Int) ≤ x8)) && (decide (x8 < (x1.length : Int)))) then
 (f_spec_FrameHear ((x1.getD x8.toNat (0, [], false)).1) ((x1.getD x8.toNat (0, [], false)).2.1) ((x1.getD x8.toNat (0, [], false)).2.2) x7 x8 x9 x10).bind fun y31 =>
 bif ((decide ((0 : Int) ≤ x8)) && (decide (x8 < (y6.2.1.length : Int)))) then
 (some ((y6.2.1.set x8.toNat (y31.1, y31.2.1, y31.2.2.1)) : tyF)).bind fun z32 =>
 bif y31.2.2.2.2.2.2.2 then
 (f_spec_l5Told y6.1 z32 y6.2.2.1 y6.2.2.2.1 y6.2.2.2.2 ([((Int.tmod x8 x5), y31.2.2.2.1, y31.2.2.2.2.1, y31.2.2.2.2.2.1, y31.2.2.2.2.2.2.1)] : tyT)).bind fun y33 =>
 bif (!y33.2.2.2.2.2) then
 (f_spec_l5Copy x0 x1 x2 x3 x4).bind fun y34 =>
 some (y34.1, y34.2.1, y34.2.2.1, y34.2.2.2.1, y34.2.2.2.2, false)
 else
 some (y33.1, y33.2.1, y33.2.2.1, y33.2.2.2.1, y33.2.2.2.2.1, true)
 else
 (f_spec_l5Told y6.1 z32 y6.2.2.1 y6.2.2.2.1 y6.2.2.2.2 ([] : tyT)).bind fun y35 =>
 bif (!y35.2.2.2.2.2) then
 (f_spec_l5Copy x0 x1 x2 x3 x4).bind fun y36 =>
 some (y36.1, y36.2.1, y36.2.2.1, y36.2.2.2.1, y36.2.2.2.2, false)
 else
 some (y35.1, y35.2.1, y35.2.2.1, y35.2.2.2.1, y35.2.2.2.2.1, true)
 else none
 else none
 else
 (f_spec_l5Told y6.1 y6.2.1 y6.2.2.1 y6.2.2.2.1 y6.2.2.2.2 ([] : tyT)).bind fun y37 =>
 bif (!y37.2.2.2.2.2) then
 (f_spec_l5Copy x0 x1 x2 x3 x4).bind fun y38 =>
 some (y38.1, y38.2.1, y38.2.2.1, y38.2.2.2.1, y38.2.2.2.2, false)
 else
 some (y37.1, y37.2.1, y37.2.2.1, y37.2.2.2.1, y37.2.2.2.2.1, true)
noncomputable def C191 : Con := ⟨[(.B, true, [iI, (.sl R4), (.sl R5), (.sl R7), (.sl R1)]), (.B, false, [iI]), (.B, false, [iI]), (.B, true, [iI, iI, .bool, (.sl R1)])], [(true, [iI, (.sl R4), (.sl R5), (.sl R7), (.sl R1)]), (false, [.bool])], [iI, (.sl R4), (.sl R5), (.sl R7), (.sl R1), iI, iI, iI, iI, .bool, (.sl R1)], [iI, (.sl R4), (.sl R5), (.sl R7), (.sl R1), .bool], ap11 f_spec_NodeHear⟩
noncomputable abbrev K191 : Cons := [(47, C47), (54, C54), (77, C77), (107, C107), (188, C188), (214, C214), (215, C215)]
noncomputable abbrev X191 : Nat → Ctx := ctxOf tb K191 Le Qe
theorem E191 : ∀ x, funRun fs X191 6 191 C191 x = C191.fn x := fun x => by kernel_rfl
theorem B191 : ConB Tryz.prog 191 C191 := ConB.make FS MIX TY (cons := K191) (L := Le) (ptrs := Qe) ⟨S47, S54, S77, S107, S188, S214, S215, trivial⟩ trivial trivial rfl rfl E191
theorem S191 : ConS Tryz.prog 191 C191 := B191.call rfl
noncomputable def f_spec_l6Give (x0 : Int) (x1 : tyN) (x2 : tyP) (x3 : Int) (x4 : Int) (x5 : Bool) (x6 : Int) (x7 : Int) (x8 : Int) (x9 : Bool) (x10 : List Int) : Option (Int × tyN × tyP) :=
 bif ((decide ((0 : Int) ≤ x4)) && (decide (x4 < (x1.length : Int)))) then
 bif x5 then
 bif ((decide ((0 : Int) ≤ x3)) && (decide (x3 < (((x1.getD x4.toNat (0, [], [], [], [])).2.2.2.1).length : Int)))) then
 (f_spec_Acked ((((x1.getD x4.toNat (0, [], [], [], [])).2.2.2.1).getD x3.toNat (0, [])).1) ((((x1.getD x4.toNat (0, [], [], [], [])).2.2.2.1).getD x3.toNat (0, [])).2) x6).bind fun y0 =>
 bif ((decide ((0 : Int) ≤ x3)) && (decide (x3 < (((x1.getD x4.toNat (0, [], [], [], [])).2.2.2.1).length : Int)))) then
 (some ((x1.set x4.toNat ((x1.getD x4.toNat (0, [], [], [], [])).1, (x1.getD x4.toNat (0, [], [], [], [])).2.1, (x1.getD x4.toNat (0, [], [], [], [])).2.2.1, (((x1.getD x4.toNat (0, [], [], [], [])).2.2.2.1).set x3.toNat (y0.1, y0.2)), (x1.getD x4.toNat (0, [], [], [], [])).2.2.2.2)) : tyN)).bind fun z1 =>
 bif ((decide ((0 : Int) ≤ x4)) && (decide (x4 < (z1.length : Int)))) then
 bif (decide (x4 = x4)) then
 bif (decide (x4 = x4)) then
 bif (decide (x4 = x4)) then
 bif (decide (x4 = x4)) then
 (some ((z1.set x4.toNat ((x1.getD x4.toNat (0, [], [], [], [])).1, (z1.getD x4.toNat (0, [], [], [], [])).2.1, (z1.getD x4.toNat (0, [], [], [], [])).2.2.1, (z1.getD x4.toNat (0, [], [], [], [])).2.2.2.1, (z1.getD x4.toNat (0, [], [], [], [])).2.2.2.2)) : tyN)).bind fun z2 =>
 some (x0, z2, x2)
 else none
 else none
 else none
 else none
 else none
 else none
 else none
 else
 bif ((decide ((0 : Int) ≤ x3)) && (decide (x3 < (((x1.getD x4.toNat (0, [], [], [], [])).2.2.2.2).length : Int)))) then
 (f_spec_Arrived (((x1.getD x4.toNat (0, [], [], [], [])).2.2.2.2).getD x3.toNat 0) x6).bind fun y3 =>
 bif (!y3.2) then
 some (x0, x1, x2)
 else
 (f_spec_NodeHear ((x1.getD x4.toNat (0, [], [], [], [])).1) ((x1.getD x4.toNat (0, [], [], [], [])).2.1) ((x1.getD x4.toNat (0, [], [], [], [])).2.2.1) ((x1.getD x4.toNat (0, [], [], [], [])).2.2.2.1) ((x1.getD x4.toNat (0, [], [], [], [])).2.2.2.2) x0 x3 x7 x8 x9 x10).bind fun y4 =>
 bif y4.2.2.2.2.2 then
 bif ((decide ((0 : Int) ≤ x3)) && (decide (x3 < (y4.2.2.2.2.1.length : Int)))) then
 (some ((y4.2.2.2.2.1.set x3.toNat y3.1) : List Int)).bind fun z5 =>
 bif ((decide ((0 : Int) ≤ x4)) && (decide (x4 < (x1.length : Int)))) then
 (some ((x1.set x4.toNat (y4.1, y4.2.1, y4.2.2.1, y4.2.2.2.1, z5)) : tyN)).bind fun z6 =>
 some (x0, z6, x2)
 else none
 else none
 else
 some (x0, x1, x2)
 else none
 else none
noncomputable def C144 : Con := ⟨[(.M, true, [iI, (.sl R8), (.sl R9)]), (.B, true, [iI, iI, .bool, iI, iI, iI, .bool, (.sl R1)])], [(true, [iI, (.sl R8), (.sl R9)])], [iI, (.sl R8), (.sl R9), iI, iI, .bool, iI, iI, iI, .bool, (.sl R1)], [iI, (.sl R8), (.sl R9)], ap11 f_spec_l6Give⟩
noncomputable abbrev K144 : Cons := [(189, C189), (190, C190), (191, C191)]
noncomputable abbrev X144 : Nat → Ctx := ctxOf tb K144 Le Qe
theorem E144 : ∀ x, funG fs X144 6 144 C144 x = C144.fn x := fun x => by kernel_rfl
theorem B144 : ConG Tryz.prog 144 C144 := ConG.make FS MIX TY (cons := K144) (L := Le) (ptrs := Qe) ⟨S189, S190, S191, trivial⟩ trivial trivial rfl (by kernel_rfl) E144
theorem S144 : ConS Tryz.prog 144 C144 := B144.call (by kernel_rfl)
noncomputable def f_spec_l6Net (x0 : Int) (x1 : tyN) (x2 : tyP) (x3 : Int) (x4 : Int) (x5 : Int) (x6 : Int) : Option (Int × tyN × tyP × Int) :=
 (f_spec_l1In x4 0 (IntKind.wrap .i64 ((x2.length : Int) - (1 : Int)))).bind fun y0 =>
 bif (!y0) then
 some (x0, x1, x2, 2)
 else
 bif ((decide ((0 : Int) ≤ x4)) && (decide (x4 < (x2.length : Int)))) then
 bif (decide (x3 = (5 : Int))) then
 bif (decide ((x2.length : Int) = (40 : Int))) then
 some (x0, x1, x2, 4)
 else
 (f_spec_l6Packet ((x2.getD x4.toNat (0, 0, false, 0, 0, 0, false, [])).1) ((x2.getD x4.toNat (0, 0, false, 0, 0, 0, false, [])).2.1) ((x2.getD x4.toNat (0, 0, false, 0, 0, 0, false, [])).2.2.1) ((x2.getD x4.toNat (0, 0, false, 0, 0, 0, false, [])).2.2.2.1) ((x2.getD x4.toNat (0, 0, false, 0, 0, 0, false, [])).2.2.2.2.1) ((x2.getD x4.toNat (0, 0, false, 0, 0, 0, false, [])).2.2.2.2.2.1) ((x2.getD x4.toNat (0, 0, false, 0, 0, 0, false, [])).2.2.2.2.2.2.1) ((x2.getD x4.toNat (0, 0, false, 0, 0, 0, false, [])).2.2.2.2.2.2.2)).bind fun y1 =>
 bif (Nat.blt (x2.length + ([(y1.1, y1.2.1, y1.2.2.1, y1.2.2.2.1, y1.2.2.2.2.1, y1.2.2.2.2.2.1, y1.2.2.2.2.2.2.1, y1.2.2.2.2.2.2.2)] : tyP).length) 1759218604441) then
 (some ((x2 ++ ([(y1.1, y1.2.1, y1.2.2.1, y1.2.2.2.1, y1.2.2.2.2.1, y1.2.2.2.2.2.1, y1.2.2.2.2.2.2.1, y1.2.2.2.2.2.2.2)] : tyP)) : tyP)).bind fun z2 =>
 some (x0, x1, z2, 0)
 else none
 else
 bif ((decide ((0 : Int) ≤ x4)) && (decide (x4 ≤ (x2.length : Int)))) then
 bif (Nat.blt (([] : tyP).length + ((x2.drop 0).take x4.toNat).length) 1759218604441) then
 (some ((([] : tyP) ++ ((x2.drop 0).take x4.toNat)) : tyP)).bind fun z3 =>
 bif ((decide ((0 : Int) ≤ (IntKind.wrap .i64 (x4 + (1 : Int))))) && (decide ((IntKind.wrap .i64 (x4 + (1 : Int))) ≤ (x2.length : Int)))) then
 bif ((decide (((0 : Int) + x4) ≤ (IntKind.wrap .i64 (x4 + (1 : Int))))) && (decide (((IntKind.wrap .i64 (x4 + (1 : Int))) + ((x2.length : Int) - (IntKind.wrap .i64 (x4 + (1 : Int))))) ≤ (x2.length : Int)))) then
 bif (Nat.blt (z3.length + ((x2.drop (IntKind.wrap .i64 (x4 + (1 : Int))).toNat).take ((x2.length : Int) - (IntKind.wrap .i64 (x4 + (1 : Int)))).toNat).length) 1759218604441) then
 (some ((z3 ++ ((x2.drop (IntKind.wrap .i64 (x4 + (1 : Int))).toNat).take ((x2.length : Int) - (IntKind.wrap .i64 (x4 + (1 : Int)))).toNat)) : tyP)).bind fun z4 =>
 bif (decide (x3 = (4 : Int))) then
 some (x0, x1, z4, 0)
 else
 bif ((decide (((0 : Int) + x4) ≤ x4)) && (decide (x4 < (IntKind.wrap .i64 (x4 + (1 : Int)))))) then
 (f_spec_l6Give x0 x1 z4 ((x2.getD x4.toNat (0, 0, false, 0, 0, 0, false, [])).1) ((x2.getD x4.toNat (0, 0, false, 0, 0, 0, false, [])).2.1) ((x2.getD x4.toNat (0, 0, false, 0, 0, 0, false, [])).2.2.1) ((x2.getD x4.toNat (0, 0, false, 0, 0, 0, false, [])).2.2.2.1) ((x2.getD x4.toNat (0, 0, false, 0, 0, 0, false, [])).2.2.2.2.1) ((x2.getD x4.toNat (0, 0, false, 0, 0, 0, false, [])).2.2.2.2.2.1) ((x2.getD x4.toNat (0, 0, false, 0, 0, 0, false, [])).2.2.2.2.2.2.1) ((x2.getD x4.toNat (0, 0, false, 0, 0, 0, false, [])).2.2.2.2.2.2.2)).bind fun y5 =>
 some (y5.1, y5.2.1, y5.2.2, 0)
 else none
 else none
 else none
 else none
 else none
 else none
 else none
noncomputable def C86 : Con := ⟨[(.M, true, [iI, (.sl R8), (.sl R9)]), (.B, true, [iI, iI, iI, iI])], [(true, [iI, (.sl R8), (.sl R9)]), (false, [iI])], [iI, (.sl R8), (.sl R9), iI, iI, iI, iI], [iI, (.sl R8), (.sl R9), iI], ap7 f_spec_l6Net⟩
noncomputable abbrev K86 : Cons := [(47, C47), (78, C78), (144, C144)]
noncomputable abbrev X86 : Nat → Ctx := ctxOf tb K86 Le Qe
theorem E86 : ∀ x, funG fs X86 6 86 C86 x = C86.fn x := fun x => by kernel_rfl
theorem B86 : ConG Tryz.prog 86 C86 := ConG.make FS MIX TY (cons := K86) (L := Le) (ptrs := Qe) ⟨S47, S78, S144, trivial⟩ trivial trivial rfl (by kernel_rfl) E86
theorem S86 : ConS Tryz.prog 86 C86 := B86.call (by kernel_rfl)
noncomputable def f_spec_l6Put (x0 : Int) (x1 : tyN) (x2 : tyP) (x3 : Int) (x4 : Int) (x5 : Bool) (x6 : Int) (x7 : Int) (x8 : Int) (x9 : Bool) (x10 : List Int) : Option (Int × tyN × tyP × Int) :=
 bif (decide ((x2.length : Int) = (40 : Int))) then
 some (x0, x1, x2, 4)
 else
 bif (Nat.blt (x2.length + ([(x3, x4, x5, x6, x7, x8, x9, x10)] : tyP).length) 1759218604441) then
 (some ((x2 ++ ([(x3, x4, x5, x6, x7, x8, x9, x10)] : tyP)) : tyP)).bind fun z0 =>
 some (x0, x1, z0, 0)
 else none
noncomputable def C145 : Con := ⟨[(.M, true, [iI, (.sl R8), (.sl R9)]), (.M, true, [iI, iI, .bool, iI, iI, iI, .bool, (.sl R1)])], [(true, [iI, (.sl R8), (.sl R9)]), (false, [iI])], [iI, (.sl R8), (.sl R9), iI, iI, .bool, iI, iI, iI, .bool, (.sl R1)], [iI, (.sl R8), (.sl R9), iI], ap11 f_spec_l6Put⟩
noncomputable abbrev X145 : Nat → Ctx := ctxOf tb Ke Le Qe
theorem E145 : ∀ x, funG fs X145 6 145 C145 x = C145.fn x := fun x => by kernel_rfl
theorem B145 : ConG Tryz.prog 145 C145 := ConG.make FS MIX TY (cons := Ke) (L := Le) (ptrs := Qe) trivial trivial trivial rfl (by kernel_rfl) E145
theorem S145 : ConS Tryz.prog 145 C145 := B145.call (by kernel_rfl)
noncomputable def f_spec_l6Line (x0 : Int) (x1 : tyN) (x2 : tyP) (x3 : Int) (x4 : Int) (x5 : Int) (x6 : Int) : Option (Int × tyN × tyP × Int) :=
 (f_spec_l1In x5 0 (IntKind.wrap .i64 (x0 - (1 : Int)))).bind fun y0 =>
 bif (!y0) then
 some (x0, x1, x2, 2)
 else
 bif ((decide ((0 : Int) ≤ x4)) && (decide (x4 < (x1.length : Int)))) then
 bif ((decide ((0 : Int) ≤ x5)) && (decide (x5 < (((x1.getD x4.toNat (0, [], [], [], [])).2.2.2.2).length : Int)))) then
 bif (decide (x3 = (1 : Int))) then
 bif ((decide ((0 : Int) ≤ x5)) && (decide (x5 < (((x1.getD x4.toNat (0, [], [], [], [])).2.2.2.1).length : Int)))) then
 (f_spec_l1In x6 0 (IntKind.wrap .i64 ((((((x1.getD x4.toNat (0, [], [], [], [])).2.2.2.1).getD x5.toNat (0, [])).2).length : Int) - (1 : Int)))).bind fun y1 =>
 bif (!y1) then
 some (x0, x1, x2, 3)
 else
 bif ((decide ((0 : Int) ≤ x6)) && (decide (x6 < (((((x1.getD x4.toNat (0, [], [], [], [])).2.2.2.1).getD x5.toNat (0, [])).2).length : Int)))) then
 (f_spec_l1Msg ((((((x1.getD x4.toNat (0, [], [], [], [])).2.2.2.1).getD x5.toNat (0, [])).2).getD x6.toNat (0, 0, false, [])).1) ((((((x1.getD x4.toNat (0, [], [], [], [])).2.2.2.1).getD x5.toNat (0, [])).2).getD x6.toNat (0, 0, false, [])).2.1) ((((((x1.getD x4.toNat (0, [], [], [], [])).2.2.2.1).getD x5.toNat (0, [])).2).getD x6.toNat (0, 0, false, [])).2.2.1) ((((((x1.getD x4.toNat (0, [], [], [], [])).2.2.2.1).getD x5.toNat (0, [])).2).getD x6.toNat (0, 0, false, [])).2.2.2)).bind fun y2 =>
 (f_spec_l6Put x0 x1 x2 x4 x5 false (IntKind.wrap .i64 (((((x1.getD x4.toNat (0, [], [], [], [])).2.2.2.1).getD x5.toNat (0, [])).1) + x6)) y2.1 y2.2.1 y2.2.2.1 y2.2.2.2).bind fun y3 =>
 some (y3.1, y3.2.1, y3.2.2.1, y3.2.2.2)
 else none
 else none
 else
 (f_spec_l6Put x0 x1 x2 x4 x5 true (((x1.getD x4.toNat (0, [], [], [], [])).2.2.2.2).getD x5.toNat 0) 0 0 false []).bind fun y4 =>
 some (y4.1, y4.2.1, y4.2.2.1, y4.2.2.2)
 else none
 else none
noncomputable def C87 : Con := ⟨[(.M, true, [iI, (.sl R8), (.sl R9)]), (.B, true, [iI, iI, iI, iI])], [(true, [iI, (.sl R8), (.sl R9)]), (false, [iI])], [iI, (.sl R8), (.sl R9), iI, iI, iI, iI], [iI, (.sl R8), (.sl R9), iI], ap7 f_spec_l6Line⟩
noncomputable abbrev K87 : Cons := [(47, C47), (140, C140), (145, C145)]
noncomputable abbrev X87 : Nat → Ctx := ctxOf tb K87 Le Qe
theorem E87 : ∀ x, funG fs X87 6 87 C87 x = C87.fn x := fun x => by kernel_rfl
theorem B87 : ConG Tryz.prog 87 C87 := ConG.make FS MIX TY (cons := K87) (L := Le) (ptrs := Qe) ⟨S47, S140, S145, trivial⟩ trivial trivial rfl (by kernel_rfl) E87
theorem S87 : ConS Tryz.prog 87 C87 := B87.call (by kernel_rfl)
noncomputable def f_spec_l5Less (x0 : Int) (x1 : List Int) (x2 : Bool) (x3 : Bool) : Option (Bool) :=
 bif (decide (x0 = (0 : Int))) then
 some true
 else
 bif x3 then
 some (decide (x0 = (1 : Int)))
 else
 some false
noncomputable def C146 : Con := ⟨[(.B, true, [iI, (.sl R1), .bool]), (.B, false, [.bool])], [(false, [.bool])], [iI, (.sl R1), .bool, .bool], [.bool], ap4 f_spec_l5Less⟩
noncomputable abbrev X146 : Nat → Ctx := ctxOf tb Ke Le Qe
theorem E146 : ∀ x, funRun fs X146 6 146 C146 x = C146.fn x := fun x => by kernel_rfl
theorem B146 : ConB Tryz.prog 146 C146 := ConB.make FS MIX TY (cons := Ke) (L := Le) (ptrs := Qe) trivial trivial trivial rfl rfl E146
theorem S146 : ConS Tryz.prog 146 C146 := B146.call rfl
noncomputable def f_spec_Want (x0 : Int) (x1 : tyF) (x2 : tyH) (x3 : tyS) (x4 : List Int) (x5 : Int) (x6 : Int) (x7 : Bool) : Option (Int × tyF × tyH × tyS × List Int × Bool) :=
 (f_spec_l5Copy x0 x1 x2 x3 x4).bind fun y0 =>
 (f_spec_NodeOk x0 x1 x2 x3 x4 x5).bind fun y1 =>
 bif (!y1) then
 some (y0.1, y0.2.1, y0.2.2.1, y0.2.2.2.1, y0.2.2.2.2, false)
 else
 (f_spec_l1In x6 0 5).bind fun y2 =>
 bif (!y2) then
 some (y0.1, y0.2.1, y0.2.2.1, y0.2.2.2.1, y0.2.2.2.2, false)
 else
 bif ((decide ((0 : Int) ≤ x6)) && (decide (x6 < (x1.length : Int)))) then
 bif (x1.getD x6.toNat (0, [], false)).2.2 then
 some (y0.1, y0.2.1, y0.2.2.1, y0.2.2.2.1, y0.2.2.2.2, false)
 else
 bif ((decide ((0 : Int) ≤ x6)) && (decide (x6 < (x1.length : Int)))) then
 (f_spec_l5Less ((x1.getD x6.toNat (0, [], false)).1) ((x1.getD x6.toNat (0, [], false)).2.1) ((x1.getD x6.toNat (0, [], false)).2.2) x7).bind fun y3 =>
 bif (!y3) then
 some (y0.1, y0.2.1, y0.2.2.1, y0.2.2.2.1, y0.2.2.2.2, false)
 else
 bif x7 then
 bif (decide (x5 = (0 : Int))) then none else
 bif ((decide ((0 : Int) ≤ (Int.tmod x6 x5))) && (decide ((Int.tmod x6 x5) < (x3.length : Int)))) then
 (f_spec_Queue ((x3.getD (Int.tmod x6 x5).toNat (0, [])).1) ((x3.getD (Int.tmod x6 x5).toNat (0, [])).2) 2 x6 false []).bind fun y4 =>
 bif (!y4.2.2) then
 some (y0.1, y0.2.1, y0.2.2.1, y0.2.2.2.1, y0.2.2.2.2, false)
 else
 bif (decide (x5 = (0 : Int))) then none else
 bif ((decide ((0 : Int) ≤ (Int.tmod x6 x5))) && (decide ((Int.tmod x6 x5) < (y0.2.2.2.1.length : Int)))) then
 (some ((y0.2.2.2.1.set (Int.tmod x6 x5).toNat (y4.1, y4.2.1)) : tyS)).bind fun z5 =>
 bif ((decide ((0 : Int) ≤ x6)) && (decide (x6 < (y0.2.1.length : Int)))) then
 (some ((y0.2.1.set x6.toNat ((y0.2.1.getD x6.toNat (0, [], false)).1, (y0.2.1.getD x6.toNat (0, [], false)).2.1, true)) : tyF)).bind fun z6 =>
 some (y0.1, z6, y0.2.2.1, z5, y0.2.2.2.2, true)
 else none
 else none
 else none
 else
 bif (decide (x5 = (0 : Int))) then none else
 bif ((decide ((0 : Int) ≤ (Int.tmod x6 x5))) && (decide ((Int.tmod x6 x5) < (x3.length : Int)))) then
 (f_spec_Queue ((x3.getD (Int.tmod x6 x5).toNat (0, [])).1) ((x3.getD (Int.tmod x6 x5).toNat (0, [])).2) 1 x6 false []).bind fun y7 =>
 bif (!y7.2.2) then
 some (y0.1, y0.2.1, y0.2.2.1, y0.2.2.2.1, y0.2.2.2.2, false)
 else
 bif (decide (x5 = (0 : Int))) then none else
 bif ((decide ((0 : Int) ≤ (Int.tmod x6 x5))) && (decide ((Int.tmod x6 x5) < (y0.2.2.2.1.length : Int)))) then
 (some ((y0.2.2.2.1.set (Int.tmod x6 x5).toNat (y7.1, y7.2.1)) : tyS)).bind fun z8 =>
 bif ((decide ((0 : Int) ≤ x6)) && (decide (x6 < (y0.2.1.length : Int)))) then
 (some ((y0.2.1.set x6.toNat ((y0.2.1.getD x6.toNat (0, [], false)).1, (y0.2.1.getD x6.toNat (0, [], false)).2.1, true)) : tyF)).bind fun z9 =>
 some (y0.1, z9, y0.2.2.1, z8, y0.2.2.2.2, true)
 else none
 else none
 else none
 else none
 else none
noncomputable def C88 : Con := ⟨[(.B, true, [iI, (.sl R4), (.sl R5), (.sl R7), (.sl R1)]), (.B, false, [iI]), (.B, false, [iI]), (.B, false, [.bool])], [(true, [iI, (.sl R4), (.sl R5), (.sl R7), (.sl R1)]), (false, [.bool])], [iI, (.sl R4), (.sl R5), (.sl R7), (.sl R1), iI, iI, .bool], [iI, (.sl R4), (.sl R5), (.sl R7), (.sl R1), .bool], ap8 f_spec_Want⟩
noncomputable abbrev K88 : Cons := [(47, C47), (54, C54), (77, C77), (146, C146), (147, C147)]
noncomputable abbrev X88 : Nat → Ctx := ctxOf tb K88 Le Qe
theorem E88 : ∀ x, funRun fs X88 6 88 C88 x = C88.fn x := fun x => by kernel_rfl
theorem B88 : ConB Tryz.prog 88 C88 := ConB.make FS MIX TY (cons := K88) (L := Le) (ptrs := Qe) ⟨S47, S54, S77, S146, S147, trivial⟩ trivial trivial rfl rfl E88
theorem S88 : ConS Tryz.prog 88 C88 := B88.call rfl
noncomputable def f_spec_l6Do (x0 : Int) (x1 : tyN) (x2 : tyP) (x3 : Int) (x4 : Int) (x5 : Int) (x6 : Int) : Option (Int × tyN × tyP × Int) :=
 bif (decide (x3 = (3 : Int))) then
 (f_spec_l6Net x0 x1 x2 x3 x4 x5 x6).bind fun y0 =>
 some (y0.1, y0.2.1, y0.2.2.1, y0.2.2.2)
 else
 bif (decide (x3 = (4 : Int))) then
 (f_spec_l6Net x0 x1 x2 x3 x4 x5 x6).bind fun y1 =>
 some (y1.1, y1.2.1, y1.2.2.1, y1.2.2.2)
 else
 bif (decide (x3 = (5 : Int))) then
 (f_spec_l6Net x0 x1 x2 x3 x4 x5 x6).bind fun y2 =>
 some (y2.1, y2.2.1, y2.2.2.1, y2.2.2.2)
 else
 (f_spec_l1In x4 0 (IntKind.wrap .i64 (x0 - (1 : Int)))).bind fun y3 =>
 bif (!y3) then
 some (x0, x1, x2, 2)
 else
 bif (!(decide (x3 = (6 : Int)))) then
 (f_spec_l6Line x0 x1 x2 x3 x4 x5 x6).bind fun y4 =>
 some (y4.1, y4.2.1, y4.2.2.1, y4.2.2.2)
 else
 bif ((decide ((0 : Int) ≤ x4)) && (decide (x4 < (x1.length : Int)))) then
 (f_spec_Want ((x1.getD x4.toNat (0, [], [], [], [])).1) ((x1.getD x4.toNat (0, [], [], [], [])).2.1) ((x1.getD x4.toNat (0, [], [], [], [])).2.2.1) ((x1.getD x4.toNat (0, [], [], [], [])).2.2.2.1) ((x1.getD x4.toNat (0, [], [], [], [])).2.2.2.2) x0 x5 (decide (x6 = (1 : Int)))).bind fun y5 =>
 bif (!y5.2.2.2.2.2) then
 some (x0, x1, x2, 3)
 else
 bif ((decide ((0 : Int) ≤ x4)) && (decide (x4 < (x1.length : Int)))) then
 (some ((x1.set x4.toNat (y5.1, y5.2.1, y5.2.2.1, y5.2.2.2.1, y5.2.2.2.2.1)) : tyN)).bind fun z6 =>
 some (x0, z6, x2, 0)
 else none
 else none
noncomputable def C48 : Con := ⟨[(.M, true, [iI, (.sl R8), (.sl R9)]), (.B, true, [iI, iI, iI, iI])], [(true, [iI, (.sl R8), (.sl R9)]), (false, [iI])], [iI, (.sl R8), (.sl R9), iI, iI, iI, iI], [iI, (.sl R8), (.sl R9), iI], ap7 f_spec_l6Do⟩
noncomputable abbrev K48 : Cons := [(47, C47), (86, C86), (87, C87), (88, C88)]
noncomputable abbrev X48 : Nat → Ctx := ctxOf tb K48 Le Qe
theorem E48 : ∀ x, funG fs X48 6 48 C48 x = C48.fn x := fun x => by kernel_rfl
theorem B48 : ConG Tryz.prog 48 C48 := ConG.make FS MIX TY (cons := K48) (L := Le) (ptrs := Qe) ⟨S47, S86, S87, S88, trivial⟩ trivial trivial rfl (by kernel_rfl) E48
theorem S48 : ConS Tryz.prog 48 C48 := B48.call (by kernel_rfl)
noncomputable def f_spec_WorldDo (x0 : Int) (x1 : tyN) (x2 : tyP) (x3 : Int) (x4 : Int) (x5 : Int) (x6 : Int) : Option (Int × tyN × tyP × Int) :=
 (f_spec_WorldOk x0 x1 x2).bind fun y0 =>
 bif (!y0) then
 some (0, [], [], 1)
 else
 (f_spec_l1In x3 1 6).bind fun y1 =>
 bif (!y1) then
 some (0, [], [], 1)
 else
 (f_spec_l6Copy x0 x1 x2).bind fun y2 =>
 (f_spec_l6Do y2.1 y2.2.1 y2.2.2 x3 x4 x5 x6).bind fun y3 =>
 bif (!(decide (y3.2.2.2 = (0 : Int)))) then
 (f_spec_l6Copy x0 x1 x2).bind fun y4 =>
 some (y4.1, y4.2.1, y4.2.2, y3.2.2.2)
 else
 some (y3.1, y3.2.1, y3.2.2.1, y3.2.2.2)
noncomputable def C16 : Con := ⟨[(.B, true, [iI, (.sl R8), (.sl R9)]), (.B, true, [iI, iI, iI, iI])], [(true, [iI, (.sl R8), (.sl R9)]), (false, [iI])], [iI, (.sl R8), (.sl R9), iI, iI, iI, iI], [iI, (.sl R8), (.sl R9), iI], ap7 f_spec_WorldDo⟩
noncomputable abbrev K16 : Cons := [(18, C18), (42, C42), (47, C47), (48, C48)]
noncomputable abbrev X16 : Nat → Ctx := ctxOf tb K16 Le Qe
theorem E16 : ∀ x, funRun fs X16 6 16 C16 x = C16.fn x := fun x => by kernel_rfl
theorem B16 : ConB Tryz.prog 16 C16 := ConB.make FS MIX TY (cons := K16) (L := Le) (ptrs := Qe) ⟨S18, S42, S47, S48, trivial⟩ trivial trivial rfl rfl E16
theorem S16 : ConS Tryz.prog 16 C16 := B16.call rfl
noncomputable def f_spec_l6DrawRight.l1 : Nat → Int → Int → (List Int) → Int → Int → Int → Int → Int → Int → Int → (List (Int × Int × Int × Int)) → tyN → tyP → tyN → tyP → tyN → tyP → tyN → tyP → Option (List Int × Int × Int × Int × Int × Int × Int × Int × (List (Int × Int × Int × Int)) × tyN × tyP × tyN × tyP × tyN × tyP × tyN × tyP)
 | 0, _, _, _, _, _, _, _, _, _, _, _, _, _, _, _, _, _, _, _ => none
 | n + 1, p0, p1, p2, p3, p4, p5, p6, p7, p8, p9, p10, p11, p12, p13, p14, p15, p16, p17, p18 =>
 bif (decide (p1 < p0)) then
 (f_spec_l6DrawDeed p2 p3 p4 p9 p17 p18).bind fun y19 =>
 bif (Nat.blt (p10.length + ([(y19.1, y19.2.1, y19.2.2.1, y19.2.2.2.1)] : List (Int × Int × Int × Int)).length) 4398046511104) then
 (some ((p10 ++ ([(y19.1, y19.2.1, y19.2.2.1, y19.2.2.2.1)] : List (Int × Int × Int × Int))) : List (Int × Int × Int × Int))).bind fun z20 =>
 (f_spec_WorldDo p9 p17 p18 y19.1 y19.2.1 y19.2.2.1 y19.2.2.2.1).bind fun y21 =>
 bif (decide (y21.2.2.2 = (0 : Int))) then
 f_spec_l6DrawRight.l1 n p0 (IntKind.wrap .i64 (p1 + (1 : Int))) p2 y19.2.2.2.2.1 y19.2.2.2.2.2 p5 p6 p7 p8 y21.1 z20 p11 p12 p13 p14 p15 p16 y21.2.1 y21.2.2.1
 else
 f_spec_l6DrawRight.l1 n p0 (IntKind.wrap .i64 (p1 + (1 : Int))) p2 y19.2.2.2.2.1 y19.2.2.2.2.2 p5 p6 p7 p8 p9 z20 p11 p12 p13 p14 p15 p16 p17 p18
 else none
 else
 some (p2, p3, p4, p5, p6, p7, p8, p9, p10, p11, p12, p13, p14, p15, p16, p17, p18)
noncomputable def f_spec_l6DrawRight.l0 : Nat → Int → Int → (List Int) → Int → Int → Int → Int → Int → Int → Int → (List (Int × Int × Int × Int)) → tyN → tyP → tyN → tyP → tyN → tyP → Option ((Int × Int × List Int × Int × Int × Int × Int × Int × Int × Int × (List (Int × Int × Int × Int)) × tyN × tyP × tyN × tyP × tyN × tyP × tyN × tyP) ⊕ (List Int × Int × Int × Int × Int × Int × Int × Int × (List (Int × Int × Int × Int)) × tyN × tyP × tyN × tyP × tyN × tyP))
 | 0, _, _, _, _, _, _, _, _, _, _, _, _, _, _, _, _, _ => none
 | n + 1, p0, p1, p2, p3, p4, p5, p6, p7, p8, p9, p10, p11, p12, p13, p14, p15, p16 =>
 bif (decide (p1 < p0)) then
 (f_spec_l6DrawDeed p2 p3 p4 p9 p15 p16).bind fun y17 =>
 bif (Nat.blt (p10.length + ([(y17.1, y17.2.1, y17.2.2.1, y17.2.2.2.1)] : List (Int × Int × Int × Int)).length) 4398046511104) then
 (some ((p10 ++ ([(y17.1, y17.2.1, y17.2.2.1, y17.2.2.2.1)] : List (Int × Int × Int × Int))) : List (Int × Int × Int × Int))).bind fun z18 =>
 (f_spec_WorldDo p9 p15 p16 y17.1 y17.2.1 y17.2.2.1 y17.2.2.2.1).bind fun y19 =>
 bif (decide (y19.2.2.2 = (0 : Int))) then
 some (.inl (p0, (IntKind.wrap .i64 (p1 + (1 : Int))), p2, y17.2.2.2.2.1, y17.2.2.2.2.2, p5, p6, p7, p8, y19.1, z18, p11, p12, p13, p14, p15, p16, y19.2.1, y19.2.2.1))
 else
 f_spec_l6DrawRight.l0 n p0 (IntKind.wrap .i64 (p1 + (1 : Int))) p2 y17.2.2.2.2.1 y17.2.2.2.2.2 p5 p6 p7 p8 p9 z18 p11 p12 p13 p14 p15 p16
 else none
 else
 some (.inr (p2, p3, p4, p5, p6, p7, p8, p9, p10, p11, p12, p13, p14, p15, p16))
noncomputable def f_spec_l6DrawRight (x0 : List Int) (x1 : Int) (x2 : Int) : Option (Int × tyN × tyP × Int × Int) :=
 (f_spec_l1Below x0 x1 x2 3).bind fun y0 =>
 (f_spec_WorldNew (IntKind.wrap .i64 ((1 : Int) + y0.1))).bind fun y1 =>
 (f_spec_l1Below x0 y0.2.1 y0.2.2 51).bind fun y2 =>
 (f_spec_l6DrawRight.l0 N y2.1 0 x0 y2.2.1 y2.2.2 0 0 0 y1.1 y1.1 ([] : List (Int × Int × Int × Int)) ([] : tyN) ([] : tyP) ([] : tyN) ([] : tyP) y1.2.1 y1.2.2.1).bind fun r3 =>
 cs r3 (fun a4 =>
 (f_spec_l6DrawRight.l1 N a4.1 a4.2.1 a4.2.2.1 a4.2.2.2.1 a4.2.2.2.2.1 a4.2.2.2.2.2.1 a4.2.2.2.2.2.2.1 a4.2.2.2.2.2.2.2.1 a4.2.2.2.2.2.2.2.2.1 a4.2.2.2.2.2.2.2.2.2.1 a4.2.2.2.2.2.2.2.2.2.2.1 a4.2.2.2.2.2.2.2.2.2.2.2.1 a4.2.2.2.2.2.2.2.2.2.2.2.2.1 a4.2.2.2.2.2.2.2.2.2.2.2.2.2.1 a4.2.2.2.2.2.2.2.2.2.2.2.2.2.2.1 a4.2.2.2.2.2.2.2.2.2.2.2.2.2.2.2.1 a4.2.2.2.2.2.2.2.2.2.2.2.2.2.2.2.2.1 a4.2.2.2.2.2.2.2.2.2.2.2.2.2.2.2.2.2.1 a4.2.2.2.2.2.2.2.2.2.2.2.2.2.2.2.2.2.2).bind fun r5 =>
 some (r5.2.2.2.2.2.2.2.1, r5.2.2.2.2.2.2.2.2.2.2.2.2.2.2.2.1, r5.2.2.2.2.2.2.2.2.2.2.2.2.2.2.2.2, r5.2.1, r5.2.2.1)) (fun b6 =>
 some (b6.2.2.2.2.2.2.2.1, b6.2.2.2.2.2.2.2.2.2.2.2.2.2.1, b6.2.2.2.2.2.2.2.2.2.2.2.2.2.2, b6.2.1, b6.2.2.1))
noncomputable def C80 : Con := ⟨[(.P [false, true, true], false, [(.sl R0), iI, iI])], [(true, [iI, (.sl R8), (.sl R9)])], [(.sl R0), iI, iI], [iI, (.sl R8), (.sl R9), iI, iI], ap3 f_spec_l6DrawRight⟩
noncomputable abbrev f_spec_l6DrawRight.l0.u (n : Nat) := ap17 (f_spec_l6DrawRight.l0 n)
noncomputable def f_spec_l6DrawRight.l0.c : LoopCon := ⟨1195, 5, [0, 4, 6, 7, 9, 10, 11, 12], ⟨[(0, .ptr 500 0), (4, .ptr 1195 0), (6, .ptr 1196 0), (7, .ptr 1197 0), (9, .ptr 1198 0), (10, .ref 1199 [] none), (11, i0), (12, i0)], [(500, .box [.bor (some 0) R0 [], i0, i0]), (1003, .box [i0, .nil (some R8), .nil (some R9)]), (1195, .box [i0, .ref 1200 [] none, .ref 1201 [] none]), (1196, .box [i0, .ref 1202 [] none, .ref 1203 [] none]), (1197, .box [i0, .ref 1204 [] none, .ref 1205 [] none]), (1198, .box [i0, .ref 1204 [] none, .ref 1205 [] none]), (1199, .row R11 []), (1200, .row R8 []), (1201, .row R9 []), (1202, .row R8 []), (1203, .row R9 []), (1204, .row R8 []), (1205, .row R9 [])], 1206⟩, [iI, iI, (.sl R0), iI, iI, iI, iI, iI, iI, iI, (.sl R11), (.sl R8), (.sl R9), (.sl R8), (.sl R9), (.sl R8), (.sl R9)], [⟨.normal, [0, 4, 6, 7, 9, 10, 11, 12], ⟨[(0, .ptr 500 0), (4, .ptr 1195 0), (6, .ptr 1196 0), (7, .ptr 1197 0), (9, .ptr 1198 0), (10, .ref 1199 [] none), (11, i0), (12, i0)], [(500, .box [.bor (some 0) R0 [], i0, i0]), (1003, .box [i0, .nil (some R8), .nil (some R9)]), (1195, .box [i0, .ref 1200 [] none, .ref 1201 [] none]), (1196, .box [i0, .ref 1202 [] none, .ref 1203 [] none]), (1197, .box [i0, .ref 1204 [] none, .ref 1205 [] none]), (1198, .box [i0, .ref 1206 [] none, .ref 1207 [] none]), (1199, .row R11 []), (1200, .row R8 []), (1201, .row R9 []), (1202, .row R8 []), (1203, .row R9 []), (1204, .row R8 []), (1205, .row R9 []), (1206, .row R8 []), (1207, .row R9 [])], 1208⟩, [iI, iI, (.sl R0), iI, iI, iI, iI, iI, iI, iI, (.sl R11), (.sl R8), (.sl R9), (.sl R8), (.sl R9), (.sl R8), (.sl R9), (.sl R8), (.sl R9)]⟩, ⟨.exit 0, [4, 6, 7, 9, 10], ⟨[(4, .ptr 1195 0), (6, .ptr 1196 0), (7, .ptr 1197 0), (9, .ptr 1198 0), (10, .ref 1199 [] none)], [(500, .box [.bor (some 0) R0 [], i0, i0]), (1003, .box [i0, .nil (some R8), .nil (some R9)]), (1195, .box [i0, .ref 1200 [] none, .ref 1201 [] none]), (1196, .box [i0, .ref 1202 [] none, .ref 1203 [] none]), (1197, .box [i0, .ref 1204 [] none, .ref 1205 [] none]), (1198, .box [i0, .ref 1204 [] none, .ref 1205 [] none]), (1199, .row R11 []), (1200, .row R8 []), (1201, .row R9 []), (1202, .row R8 []), (1203, .row R9 []), (1204, .row R8 []), (1205, .row R9 [])], 1206⟩, [(.sl R0), iI, iI, iI, iI, iI, iI, iI, (.sl R11), (.sl R8), (.sl R9), (.sl R8), (.sl R9), (.sl R8), (.sl R9)]⟩], f_spec_l6DrawRight.l0.u N⟩
noncomputable abbrev f_spec_l6DrawRight.l1.u (n : Nat) := ap19 (f_spec_l6DrawRight.l1 n)
noncomputable def f_spec_l6DrawRight.l1.c : LoopCon := ⟨1195, 5, [0, 4, 6, 7, 9, 10, 11, 12], ⟨[(0, .ptr 500 0), (4, .ptr 1195 0), (6, .ptr 1196 0), (7, .ptr 1197 0), (9, .ptr 1198 0), (10, .ref 1199 [] none), (11, i0), (12, i0)], [(500, .box [.bor (some 0) R0 [], i0, i0]), (1003, .box [i0, .nil (some R8), .nil (some R9)]), (1195, .box [i0, .ref 1200 [] none, .ref 1201 [] none]), (1196, .box [i0, .ref 1202 [] none, .ref 1203 [] none]), (1197, .box [i0, .ref 1204 [] none, .ref 1205 [] none]), (1198, .box [i0, .ref 1206 [] none, .ref 1207 [] none]), (1199, .row R11 []), (1200, .row R8 []), (1201, .row R9 []), (1202, .row R8 []), (1203, .row R9 []), (1204, .row R8 []), (1205, .row R9 []), (1206, .row R8 []), (1207, .row R9 [])], 1208⟩, [iI, iI, (.sl R0), iI, iI, iI, iI, iI, iI, iI, (.sl R11), (.sl R8), (.sl R9), (.sl R8), (.sl R9), (.sl R8), (.sl R9), (.sl R8), (.sl R9)], [⟨.exit 0, [4, 6, 7, 9, 10], ⟨[(4, .ptr 1195 0), (6, .ptr 1196 0), (7, .ptr 1197 0), (9, .ptr 1198 0), (10, .ref 1199 [] none)], [(500, .box [.bor (some 0) R0 [], i0, i0]), (1003, .box [i0, .nil (some R8), .nil (some R9)]), (1195, .box [i0, .ref 1200 [] none, .ref 1201 [] none]), (1196, .box [i0, .ref 1202 [] none, .ref 1203 [] none]), (1197, .box [i0, .ref 1204 [] none, .ref 1205 [] none]), (1198, .box [i0, .ref 1206 [] none, .ref 1207 [] none]), (1199, .row R11 []), (1200, .row R8 []), (1201, .row R9 []), (1202, .row R8 []), (1203, .row R9 []), (1204, .row R8 []), (1205, .row R9 []), (1206, .row R8 []), (1207, .row R9 [])], 1208⟩, [(.sl R0), iI, iI, iI, iI, iI, iI, iI, (.sl R11), (.sl R8), (.sl R9), (.sl R8), (.sl R9), (.sl R8), (.sl R9), (.sl R8), (.sl R9)]⟩], f_spec_l6DrawRight.l1.u N⟩
noncomputable abbrev K80 : Cons := [(16, C16), (21, C21), (46, C46), (56, C56)]
noncomputable abbrev L80 : List (Nat × Loops) := [(37, [(6, f_spec_l6DrawRight.l0.c), (6, f_spec_l6DrawRight.l1.c)])]
noncomputable abbrev X80 : Nat → Ctx := ctxOf tb K80 L80 Qe
theorem f_spec_l6DrawRight.l0.ok : ∀ n p, f_spec_l6DrawRight.l0.u n p = iterD (roundOf fs X80 5 37 6 true f_spec_l6DrawRight.l0.c) n p :=
 iter_of (l := f_spec_l6DrawRight.l0.u) (fun _ => rfl) (fun n p => by kernel_rfl)
theorem f_spec_l6DrawRight.l1.ok : ∀ n p, f_spec_l6DrawRight.l1.u n p = iterD (roundOf fs X80 5 37 6 true f_spec_l6DrawRight.l1.c) n p :=
 iter_of (l := f_spec_l6DrawRight.l1.u) (fun _ => rfl) (fun n p => by kernel_rfl)
theorem E80 : ∀ x, funG fs X80 6 80 C80 x = C80.fn x := fun x => by kernel_rfl
theorem B80 : ConG Tryz.prog 80 C80 := ConG.make FS MIX TY (cons := K80) (L := L80) (ptrs := Qe) ⟨S16, S21, S46, S56, trivial⟩ trivial ⟨⟨⟨N, fun p => f_spec_l6DrawRight.l0.ok N p⟩, ⟨N, fun p => f_spec_l6DrawRight.l1.ok N p⟩, trivial⟩, trivial⟩ rfl (by kernel_rfl) E80
theorem S80 : ConS Tryz.prog 80 C80 := B80.call (by kernel_rfl)
noncomputable def f_spec_l1PickInt (x0 : List Int) (x1 : Int) (x2 : Int) (x3 : List Int) : Option (Int × Int × Int) :=
 (f_spec_l1Below x0 x1 x2 (x3.length : Int)).bind fun y0 =>
 bif ((decide ((0 : Int) ≤ y0.1)) && (decide (y0.1 < (x3.length : Int)))) then
 some ((x3.getD y0.1.toNat 0), y0.2.1, y0.2.2)
 else none
noncomputable def C84 : Con := ⟨[(.P [false, true, true], false, [(.sl R0), iI, iI]), (.B, false, [(.sl R1)])], [(false, [iI])], [(.sl R0), iI, iI, (.sl R1)], [iI, iI, iI], ap4 f_spec_l1PickInt⟩
noncomputable abbrev K84 : Cons := [(56, C56)]
noncomputable abbrev X84 : Nat → Ctx := ctxOf tb K84 Le Qe
theorem E84 : ∀ x, funG fs X84 6 84 C84 x = C84.fn x := fun x => by kernel_rfl
theorem B84 : ConG Tryz.prog 84 C84 := ConG.make FS MIX TY (cons := K84) (L := Le) (ptrs := Qe) ⟨S56, trivial⟩ trivial trivial rfl (by kernel_rfl) E84
theorem S84 : ConS Tryz.prog 84 C84 := B84.call (by kernel_rfl)
noncomputable def f_spec_l1DrawList.l0 : Nat → Int → (List Int) → Int → Int → (List Int) → Option (List Int × Int × Int × List Int)
 | 0, _, _, _, _, _ => none
 | n + 1, p0, p1, p2, p3, p4 =>
 bif (decide (p0 < (4 : Int))) then
 (f_spec_l1PickInt p1 p2 p3 ([0, 1, 5, 300, 65535] : List Int)).bind fun y5 =>
 bif (Nat.blt (p4.length + ([y5.1] : List Int).length) 17592186044416) then
 (some ((p4 ++ ([y5.1] : List Int)) : List Int)).bind fun z6 =>
 f_spec_l1DrawList.l0 n (IntKind.wrap .i64 (p0 + (1 : Int))) p1 y5.2.1 y5.2.2 z6
 else none
 else
 some (p1, p2, p3, p4)
noncomputable def f_spec_l1DrawList (x0 : List Int) (x1 : Int) (x2 : Int) : Option (List Int × Int × Int) :=
 (f_spec_l1DrawList.l0 N 0 x0 x1 x2 ([] : List Int)).bind fun r0 =>
 some (r0.2.2.2, r0.2.1, r0.2.2.1)
noncomputable def C187 : Con := ⟨[(.P [false, true, true], false, [(.sl R0), iI, iI])], [(false, [(.sl R1)])], [(.sl R0), iI, iI], [(.sl R1), iI, iI], ap3 f_spec_l1DrawList⟩
noncomputable abbrev f_spec_l1DrawList.l0.u (n : Nat) := ap5 (f_spec_l1DrawList.l0 n)
noncomputable def f_spec_l1DrawList.l0.c : LoopCon := ⟨1000, 6, [0, 2, 3, 4], ⟨[(0, .ptr 500 0), (2, .nil (some R1)), (3, .ref 1000 [] none), (4, i0)], [(500, .box [.bor (some 0) R0 [], i0, i0]), (1000, .row R1 [])], 1001⟩, [iI, (.sl R0), iI, iI, (.sl R1)], [⟨.exit 0, [2, 3], ⟨[(2, .nil (some R1)), (3, .ref 1000 [] none)], [(500, .box [.bor (some 0) R0 [], i0, i0]), (1000, .row R1 [])], 1001⟩, [(.sl R0), iI, iI, (.sl R1)]⟩], f_spec_l1DrawList.l0.u N⟩
noncomputable abbrev K187 : Cons := [(84, C84)]
noncomputable abbrev L187 : List (Nat × Loops) := [(187, [(3, f_spec_l1DrawList.l0.c)])]
noncomputable abbrev X187 : Nat → Ctx := ctxOf tb K187 L187 Qe
theorem f_spec_l1DrawList.l0.ok : ∀ n p, f_spec_l1DrawList.l0.u n p = iterD (roundOf fs X187 6 187 3 false f_spec_l1DrawList.l0.c) n p :=
 iter_of (l := f_spec_l1DrawList.l0.u) (fun _ => rfl) (fun n p => by kernel_rfl)
theorem E187 : ∀ x, funG fs X187 6 187 C187 x = C187.fn x := fun x => by kernel_rfl
theorem B187 : ConG Tryz.prog 187 C187 := ConG.make FS MIX TY (cons := K187) (L := L187) (ptrs := Qe) ⟨S84, trivial⟩ trivial ⟨⟨⟨N, fun p => f_spec_l1DrawList.l0.ok N p⟩, trivial⟩, trivial⟩ rfl (by kernel_rfl) E187
theorem S187 : ConS Tryz.prog 187 C187 := B187.call (by kernel_rfl)
noncomputable def f_spec_l3DrawRight (x0 : List Int) (x1 : Int) (x2 : Int) : Option (Int × List Int × Bool × Int × Int) :=
 (f_spec_l1Below x0 x1 x2 3).bind fun y0 =>
 (f_spec_l1Once x0 y0.2.1 y0.2.2 3).bind fun y1 =>
 bif (!(decide (y0.1 = (0 : Int)))) then
 (f_spec_l1DrawList x0 y1.2.1 y1.2.2).bind fun y2 =>
 some (y0.1, y2.1, y1.1, y2.2.1, y2.2.2)
 else
 some (y0.1, [], y1.1, y1.2.1, y1.2.2)
noncomputable def C141 : Con := ⟨[(.P [false, true, true], false, [(.sl R0), iI, iI])], [(true, [iI, (.sl R1), .bool])], [(.sl R0), iI, iI], [iI, (.sl R1), .bool, iI, iI], ap3 f_spec_l3DrawRight⟩
noncomputable abbrev K141 : Cons := [(39, C39), (56, C56), (187, C187)]
noncomputable abbrev X141 : Nat → Ctx := ctxOf tb K141 Le Qe
theorem E141 : ∀ x, funG fs X141 6 141 C141 x = C141.fn x := fun x => by kernel_rfl
theorem B141 : ConG Tryz.prog 141 C141 := ConG.make FS MIX TY (cons := K141) (L := Le) (ptrs := Qe) ⟨S39, S56, S187, trivial⟩ trivial trivial rfl (by kernel_rfl) E141
theorem S141 : ConS Tryz.prog 141 C141 := B141.call (by kernel_rfl)
noncomputable def f_spec_l3Draw (x0 : List Int) (x1 : Int) (x2 : Int) : Option (Int × List Int × Bool × Int × Int) :=
 (f_spec_l3DrawRight x0 x1 x2).bind fun y0 =>
 (f_spec_l1Below x0 y0.2.2.2.1 y0.2.2.2.2 12).bind fun y1 =>
 bif (decide (y1.1 = (0 : Int))) then
 (f_spec_l1Below x0 y1.2.1 y1.2.2 5).bind fun y2 =>
 some ((IntKind.wrap .i64 (y2.1 - (1 : Int))), y0.2.1, y0.2.2.1, y2.2.1, y2.2.2)
 else
 bif (decide (y1.1 = (1 : Int))) then
 bif (Nat.blt (y0.2.1.length + ([3] : List Int).length) 17592186044416) then
 (some ((y0.2.1 ++ ([3] : List Int)) : List Int)).bind fun z3 =>
 some (y0.1, z3, y0.2.2.1, y1.2.1, y1.2.2)
 else none
 else
 bif (decide (y1.1 = (2 : Int))) then
 some (y0.1, [], y0.2.2.1, y1.2.1, y1.2.2)
 else
 some (y0.1, y0.2.1, y0.2.2.1, y1.2.1, y1.2.2)
noncomputable def C81 : Con := ⟨[(.P [false, true, true], false, [(.sl R0), iI, iI])], [(true, [iI, (.sl R1), .bool])], [(.sl R0), iI, iI], [iI, (.sl R1), .bool, iI, iI], ap3 f_spec_l3Draw⟩
noncomputable abbrev K81 : Cons := [(56, C56), (141, C141)]
noncomputable abbrev X81 : Nat → Ctx := ctxOf tb K81 Le Qe
theorem E81 : ∀ x, funG fs X81 6 81 C81 x = C81.fn x := fun x => by kernel_rfl
theorem B81 : ConG Tryz.prog 81 C81 := ConG.make FS MIX TY (cons := K81) (L := Le) (ptrs := Qe) ⟨S56, S141, trivial⟩ trivial trivial rfl (by kernel_rfl) E81
theorem S81 : ConS Tryz.prog 81 C81 := B81.call (by kernel_rfl)
noncomputable def f_spec_l1DrawRight (x0 : List Int) (x1 : Int) (x2 : Int) : Option (Int × Int × Bool × List Int × Int × Int) :=
 (f_spec_l1Below x0 x1 x2 7).bind fun y0 =>
 (f_spec_l1Below x0 y0.2.1 y0.2.2 6).bind fun y1 =>
 bif (decide ((IntKind.wrap .i64 ((1 : Int) + y0.1)) = (3 : Int))) then
 (f_spec_l1Once x0 y1.2.1 y1.2.2 2).bind fun y2 =>
 bif (decide ((IntKind.wrap .i64 ((1 : Int) + y0.1)) = (3 : Int))) then
 (f_spec_l1DrawList x0 y2.2.1 y2.2.2).bind fun y3 =>
 some ((IntKind.wrap .i64 ((1 : Int) + y0.1)), y1.1, y2.1, y3.1, y3.2.1, y3.2.2)
 else
 bif (decide ((IntKind.wrap .i64 ((1 : Int) + y0.1)) = (7 : Int))) then
 (f_spec_l1DrawList x0 y2.2.1 y2.2.2).bind fun y4 =>
 some ((IntKind.wrap .i64 ((1 : Int) + y0.1)), y1.1, y2.1, y4.1, y4.2.1, y4.2.2)
 else
 some ((IntKind.wrap .i64 ((1 : Int) + y0.1)), y1.1, y2.1, [], y2.2.1, y2.2.2)
 else
 bif (decide ((IntKind.wrap .i64 ((1 : Int) + y0.1)) = (6 : Int))) then
 (f_spec_l1Once x0 y1.2.1 y1.2.2 2).bind fun y5 =>
 bif (decide ((IntKind.wrap .i64 ((1 : Int) + y0.1)) = (3 : Int))) then
 (f_spec_l1DrawList x0 y5.2.1 y5.2.2).bind fun y6 =>
 some ((IntKind.wrap .i64 ((1 : Int) + y0.1)), y1.1, y5.1, y6.1, y6.2.1, y6.2.2)
 else
 bif (decide ((IntKind.wrap .i64 ((1 : Int) + y0.1)) = (7 : Int))) then
 (f_spec_l1DrawList x0 y5.2.1 y5.2.2).bind fun y7 =>
 some ((IntKind.wrap .i64 ((1 : Int) + y0.1)), y1.1, y5.1, y7.1, y7.2.1, y7.2.2)
 else
 some ((IntKind.wrap .i64 ((1 : Int) + y0.1)), y1.1, y5.1, [], y5.2.1, y5.2.2)
 else
 bif (decide ((IntKind.wrap .i64 ((1 : Int) + y0.1)) = (3 : Int))) then
 (f_spec_l1DrawList x0 y1.2.1 y1.2.2).bind fun y8 =>
 some ((IntKind.wrap .i64 ((1 : Int) + y0.1)), y1.1, false, y8.1, y8.2.1, y8.2.2)
 else
 bif (decide ((IntKind.wrap .i64 ((1 : Int) + y0.1)) = (7 : Int))) then
 (f_spec_l1DrawList x0 y1.2.1 y1.2.2).bind fun y9 =>
 some ((IntKind.wrap .i64 ((1 : Int) + y0.1)), y1.1, false, y9.1, y9.2.1, y9.2.2)
 else
 some ((IntKind.wrap .i64 ((1 : Int) + y0.1)), y1.1, false, [], y1.2.1, y1.2.2)
noncomputable def C142 : Con := ⟨[(.P [false, true, true], false, [(.sl R0), iI, iI])], [(true, [iI, iI, .bool, (.sl R1)])], [(.sl R0), iI, iI], [iI, iI, .bool, (.sl R1), iI, iI], ap3 f_spec_l1DrawRight⟩
noncomputable abbrev K142 : Cons := [(39, C39), (56, C56), (187, C187)]
noncomputable abbrev X142 : Nat → Ctx := ctxOf tb K142 Le Qe
theorem E142 : ∀ x, funG fs X142 6 142 C142 x = C142.fn x := fun x => by kernel_rfl
theorem B142 : ConG Tryz.prog 142 C142 := ConG.make FS MIX TY (cons := K142) (L := Le) (ptrs := Qe) ⟨S39, S56, S187, trivial⟩ trivial trivial rfl (by kernel_rfl) E142
theorem S142 : ConS Tryz.prog 142 C142 := B142.call (by kernel_rfl)
noncomputable def f_spec_l1Draw (x0 : List Int) (x1 : Int) (x2 : Int) : Option (Int × Int × Bool × List Int × Int × Int) :=
 (f_spec_l1DrawRight x0 x1 x2).bind fun y0 =>
 (f_spec_l1Below x0 y0.2.2.2.2.1 y0.2.2.2.2.2 12).bind fun y1 =>
 bif (decide (y1.1 = (0 : Int))) then
 (f_spec_l1Below x0 y1.2.1 y1.2.2 9).bind fun y2 =>
 some (y2.1, y0.2.1, y0.2.2.1, y0.2.2.2.1, y2.2.1, y2.2.2)
 else
 bif (decide (y1.1 = (1 : Int))) then
 (f_spec_l1PickInt x0 y1.2.1 y1.2.2 ([-1, 6] : List Int)).bind fun y3 =>
 some (y0.1, y3.1, y0.2.2.1, y0.2.2.2.1, y3.2.1, y3.2.2)
 else
 bif (decide (y1.1 = (2 : Int))) then
 some (y0.1, y0.2.1, (!y0.2.2.1), y0.2.2.2.1, y1.2.1, y1.2.2)
 else
 bif (decide (y1.1 = (3 : Int))) then
 (f_spec_l1PickInt x0 y1.2.1 y1.2.2 ([-1, 3, 65536] : List Int)).bind fun y4 =>
 bif (Nat.blt (y0.2.2.2.1.length + ([y4.1] : List Int).length) 17592186044416) then
 (some ((y0.2.2.2.1 ++ ([y4.1] : List Int)) : List Int)).bind fun z5 =>
 some (y0.1, y0.2.1, y0.2.2.1, z5, y4.2.1, y4.2.2)
 else none
 else
 some (y0.1, y0.2.1, y0.2.2.1, y0.2.2.2.1, y1.2.1, y1.2.2)
noncomputable def C82 : Con := ⟨[(.P [false, true, true], false, [(.sl R0), iI, iI])], [(true, [iI, iI, .bool, (.sl R1)])], [(.sl R0), iI, iI], [iI, iI, .bool, (.sl R1), iI, iI], ap3 f_spec_l1Draw⟩
noncomputable abbrev K82 : Cons := [(56, C56), (84, C84), (142, C142)]
noncomputable abbrev X82 : Nat → Ctx := ctxOf tb K82 Le Qe
theorem E82 : ∀ x, funG fs X82 6 82 C82 x = C82.fn x := fun x => by kernel_rfl
theorem B82 : ConG Tryz.prog 82 C82 := ConG.make FS MIX TY (cons := K82) (L := Le) (ptrs := Qe) ⟨S56, S84, S142, trivial⟩ trivial trivial rfl (by kernel_rfl) E82
theorem S82 : ConS Tryz.prog 82 C82 := B82.call (by kernel_rfl)
end
end Go.Abs
