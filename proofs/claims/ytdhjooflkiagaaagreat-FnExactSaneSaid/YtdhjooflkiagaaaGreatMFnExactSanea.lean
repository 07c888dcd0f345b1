import Derived.Test.YtdhjooflkiagaaaGreatProg
import Derived.Test.YtdhjooflkiagaaaGreatAbtE
import Derived.KernelRfl
namespace Go.Proofs
open Go.Shelf Go.Lib
def Tryz.reverse147_ren : Go.Shelf.Ren := ⟨fun | 35 => 147 | n => n, fun | 22 => 56 | 23 => 76 | n => n, fun n => n⟩
theorem Tryz.reverse147 : SlLaysE0.n35 Tryz.prog Tryz.reverse147_ren where
  mixed := by kernel_rfl
  f35 := Exists.intro "slices.Reverse[[]loop.example/g00281/impl.Msg,loop.example/g00281/impl.Msg]" ⟨by decide, Tryz.func147.trans (congrArg some (by kernel_rfl))⟩
  t0 := Tryz.underlying0
  a0 := Tryz.isAgg0
  z0 := Tryz.sizeOf0
  v0 := Tryz.zeroValue0
  t3 := Tryz.underlying3
  a3 := Tryz.isAgg3
  z3 := Tryz.sizeOf3
  v3 := Tryz.zeroValue3
  t4 := Tryz.underlying4
  a4 := Tryz.isAgg4
  z4 := Tryz.sizeOf4
  v4 := Tryz.zeroValue4
  t22 := Tryz.underlying56
  a22 := Tryz.isAgg56
  z22 := Tryz.sizeOf56
  v22 := Tryz.zeroValue56
end Go.Proofs
namespace Go.Abs
open Go.Proofs
set_option linter.unusedVariables false
set_option maxRecDepth 100000
noncomputable section
abbrev N : Nat := 1152921504606846976
abbrev R0 : RT := .one (.int .i64)
abbrev R1 : RT := .cons (.int .i64) (.cons (.sl R0) (.one .bool))
abbrev R2 : RT := .one .bool
abbrev R3 : RT := .cons (.int .i64) (.one .bool)
abbrev R4 : RT := .cons (.sl R0) (.cons (.int .i64) (.cons (.sl R2) (.cons .bool (.cons (.int .i64) (.cons .bool (.cons (.int .i64) (.one (.sl R3))))))))
abbrev R5 : RT := .cons (.int .i64) (.cons (.int .i64) (.cons .bool (.one (.sl R0))))
abbrev R6 : RT := .cons (.int .i64) (.one (.sl R5))
abbrev R7 : RT := .cons (.int .i64) (.cons (.sl R1) (.cons (.sl R4) (.cons (.sl R6) (.one (.sl R0)))))
abbrev R8 : RT := .cons (.int .i64) (.cons (.int .i64) (.cons .bool (.cons (.int .i64) (.cons (.int .i64) (.cons (.int .i64) (.cons .bool (.one (.sl R0))))))))
noncomputable def tb : Tb := [(0, ⟨false, [], [], 0, 0⟩),
  (3, ⟨false, [(.int .i64)], [], 0, 8⟩),
  (4, ⟨false, [.bool], [], 0, 1⟩),
  (22, ⟨false, [(.sl R7)], [], 42, 24⟩),
  (23, ⟨false, [(.sl R8)], [], 168, 24⟩),
  (25, ⟨true, [(.int .i64), (.sl R7), (.sl R8)], [(0, 3), (1, 22), (2, 23)], 0, 56⟩),
  (28, ⟨false, [(.sl R7)], [], 49, 24⟩),
  (29, ⟨false, [(.sl R8)], [], 171, 24⟩),
  (31, ⟨true, [(.int .i64), (.sl R7), (.sl R8)], [(0, 3), (1, 28), (2, 29)], 0, 56⟩),
  (37, ⟨false, [(.sl R1)], [], 179, 24⟩),
  (38, ⟨false, [(.sl R4)], [], 184, 24⟩),
  (39, ⟨false, [(.sl R6)], [], 188, 24⟩),
  (40, ⟨false, [(.sl R0)], [], 197, 24⟩),
  (42, ⟨true, [(.int .i64), (.sl R1), (.sl R4), (.sl R6), (.sl R0)], [(0, 3), (1, 37), (2, 38), (3, 39), (4, 40)], 0, 104⟩),
  (44, ⟨false, [(.sl R1)], [], 89, 24⟩),
  (45, ⟨false, [(.sl R4)], [], 146, 24⟩),
  (46, ⟨false, [(.sl R6)], [], 73, 24⟩),
  (47, ⟨false, [(.sl R0)], [], 106, 24⟩),
  (49, ⟨true, [(.int .i64), (.sl R1), (.sl R4), (.sl R6), (.sl R0)], [(0, 3), (1, 44), (2, 45), (3, 46), (4, 47)], 0, 104⟩),
  (56, ⟨false, [(.sl R5)], [], 76, 24⟩),
  (66, ⟨false, [(.sl R0)], [], 3, 24⟩),
  (73, ⟨true, [(.int .i64), (.sl R5)], [(0, 3), (1, 56)], 0, 32⟩),
  (76, ⟨true, [(.int .i64), (.int .i64), .bool, (.sl R0)], [(0, 3), (1, 3), (2, 4), (3, 66)], 0, 48⟩),
  (89, ⟨true, [(.int .i64), (.sl R0), .bool], [(0, 3), (1, 66), (2, 4)], 0, 40⟩),
  (90, ⟨true, [(.int .i64), (.int .i64), .bool, (.sl R0)], [(0, 3), (1, 3), (2, 4), (3, 66)], 0, 48⟩),
  (102, ⟨false, [], [], 0, 8⟩),
  (106, ⟨true, [(.int .i64)], [(0, 3)], 0, 8⟩),
  (137, ⟨false, [], [], 0, 8⟩),
  (141, ⟨false, [(.sl R2)], [], 4, 24⟩),
  (143, ⟨true, [(.int .i64), .bool], [(0, 3), (1, 4)], 0, 16⟩),
  (144, ⟨false, [(.sl R3)], [], 143, 24⟩),
  (146, ⟨true, [(.sl R0), (.int .i64), (.sl R2), .bool, (.int .i64), .bool, (.int .i64), (.sl R3)], [(0, 66), (1, 3), (2, 141), (3, 4), (4, 143), (6, 3), (7, 144)], 0, 112⟩),
  (156, ⟨false, [], [], 0, 8⟩),
  (159, ⟨false, [], [], 0, 8⟩),
  (161, ⟨false, [], [], 0, 8⟩),
  (163, ⟨false, [], [], 0, 8⟩),
  (168, ⟨true, [(.int .i64), (.int .i64), .bool, (.int .i64), (.int .i64), (.int .i64), .bool, (.sl R0)], [(0, 3), (1, 3), (2, 4), (3, 3), (4, 90)], 0, 80⟩),
  (171, ⟨true, [(.int .i64), (.int .i64), .bool, (.int .i64), (.int .i64), (.int .i64), .bool, (.sl R0)], [(0, 3), (1, 3), (2, 4), (3, 3), (4, 76)], 0, 80⟩),
  (174, ⟨false, [], [], 0, 8⟩),
  (179, ⟨true, [(.int .i64), (.sl R0), .bool], [(0, 3), (1, 66), (2, 4)], 0, 40⟩),
  (181, ⟨true, [(.int .i64), .bool], [(0, 3), (1, 4)], 0, 16⟩),
  (182, ⟨false, [(.sl R3)], [], 181, 24⟩),
  (184, ⟨true, [(.sl R0), (.int .i64), (.sl R2), .bool, (.int .i64), .bool, (.int .i64), (.sl R3)], [(0, 66), (1, 3), (2, 141), (3, 4), (4, 181), (6, 3), (7, 182)], 0, 112⟩),
  (186, ⟨false, [(.sl R5)], [], 90, 24⟩),
  (188, ⟨true, [(.int .i64), (.sl R5)], [(0, 3), (1, 186)], 0, 32⟩),
  (197, ⟨true, [(.int .i64)], [(0, 3)], 0, 8⟩),
  (221, ⟨false, [], [], 0, 8⟩)]
noncomputable def fsL : List (Nat × Func) := [(135, Tryz.f135), (148, Tryz.f148), (73, Tryz.f73), (194, Tryz.f194), (195, Tryz.f195), (149, Tryz.f149), (74, Tryz.f74), (53, Tryz.f53), (196, Tryz.f196), (150, Tryz.f150), (75, Tryz.f75), (76, Tryz.f76), (18, Tryz.f18), (57, Tryz.f57), (137, Tryz.f137), (58, Tryz.f58), (11, Tryz.f11), (136, Tryz.f136), (155, Tryz.f155), (80, Tryz.f80), (197, Tryz.f197), (198, Tryz.f198), (199, Tryz.f199), (156, Tryz.f156), (81, Tryz.f81), (54, Tryz.f54), (200, Tryz.f200), (157, Tryz.f157), (82, Tryz.f82), (158, Tryz.f158), (83, Tryz.f83), (20, Tryz.f20), (62, Tryz.f62), (139, Tryz.f139), (63, Tryz.f63), (13, Tryz.f13), (60, Tryz.f60), (182, Tryz.f182), (130, Tryz.f130), (131, Tryz.f131), (113, Tryz.f113), (132, Tryz.f132), (48, Tryz.f48), (138, Tryz.f138), (59, Tryz.f59), (61, Tryz.f61), (12, Tryz.f12), (154, Tryz.f154), (99, Tryz.f99), (145, Tryz.f145), (69, Tryz.f69), (70, Tryz.f70), (16, Tryz.f16), (140, Tryz.f140), (100, Tryz.f100), (212, Tryz.f212), (211, Tryz.f211), (222, Tryz.f222), (210, Tryz.f210), (179, Tryz.f179), (120, Tryz.f120), (119, Tryz.f119), (185, Tryz.f185), (118, Tryz.f118), (188, Tryz.f188), (217, Tryz.f217), (187, Tryz.f187), (123, Tryz.f123), (122, Tryz.f122), (186, Tryz.f186), (121, Tryz.f121), (129, Tryz.f129), (65, Tryz.f65), (110, Tryz.f110), (191, Tryz.f191), (218, Tryz.f218), (190, Tryz.f190), (126, Tryz.f126), (125, Tryz.f125), (189, Tryz.f189), (124, Tryz.f124), (128, Tryz.f128), (192, Tryz.f192), (127, Tryz.f127), (47, Tryz.f47), (143, Tryz.f143), (142, Tryz.f142), (193, Tryz.f193), (141, Tryz.f141), (64, Tryz.f64), (146, Tryz.f146), (163, Tryz.f163), (101, Tryz.f101), (147, Tryz.f147), (71, Tryz.f71), (66, Tryz.f66), (72, Tryz.f72), (17, Tryz.f17), (39, Tryz.f39), (164, Tryz.f164), (87, Tryz.f87), (203, Tryz.f203), (204, Tryz.f204), (205, Tryz.f205), (165, Tryz.f165), (88, Tryz.f88), (55, Tryz.f55), (27, Tryz.f27), (166, Tryz.f166), (89, Tryz.f89), (167, Tryz.f167), (90, Tryz.f90), (22, Tryz.f22), (67, Tryz.f67), (144, Tryz.f144), (68, Tryz.f68), (15, Tryz.f15), (4, Tryz.f4)]
noncomputable def fs : Nat → Option Func := getF fsL
theorem MIX : Tryz.prog.follows .mixedOrders = true := by kernel_rfl
theorem TY : tyCheck Tryz.prog tb = true := by kernel_rfl
theorem CAT : catCheck tb = true := by kernel_rfl
theorem FSP : FsP Tryz.prog fsL := ⟨Tryz.func135, Tryz.func148, Tryz.func73, Tryz.func194, Tryz.func195, Tryz.func149, Tryz.func74, Tryz.func53, Tryz.func196, Tryz.func150, Tryz.func75, Tryz.func76, Tryz.func18, Tryz.func57, Tryz.func137, Tryz.func58, Tryz.func11, Tryz.func136, Tryz.func155, Tryz.func80, Tryz.func197, Tryz.func198, Tryz.func199, Tryz.func156, Tryz.func81, Tryz.func54, Tryz.func200, Tryz.func157, Tryz.func82, Tryz.func158, Tryz.func83, Tryz.func20, Tryz.func62, Tryz.func139, Tryz.func63, Tryz.func13, Tryz.func60, Tryz.func182, Tryz.func130, Tryz.func131, Tryz.func113, Tryz.func132, Tryz.func48, Tryz.func138, Tryz.func59, Tryz.func61, Tryz.func12, Tryz.func154, Tryz.func99, Tryz.func145, Tryz.func69, Tryz.func70, Tryz.func16, Tryz.func140, Tryz.func100, Tryz.func212, Tryz.func211, Tryz.func222, Tryz.func210, Tryz.func179, Tryz.func120, Tryz.func119, Tryz.func185, Tryz.func118, Tryz.func188, Tryz.func217, Tryz.func187, Tryz.func123, Tryz.func122, Tryz.func186, Tryz.func121, Tryz.func129, Tryz.func65, Tryz.func110, Tryz.func191, Tryz.func218, Tryz.func190, Tryz.func126, Tryz.func125, Tryz.func189, Tryz.func124, Tryz.func128, Tryz.func192, Tryz.func127, Tryz.func47, Tryz.func143, Tryz.func142, Tryz.func193, Tryz.func141, Tryz.func64, Tryz.func146, Tryz.func163, Tryz.func101, Tryz.func147, Tryz.func71, Tryz.func66, Tryz.func72, Tryz.func17, Tryz.func39, Tryz.func164, Tryz.func87, Tryz.func203, Tryz.func204, Tryz.func205, Tryz.func165, Tryz.func88, Tryz.func55, Tryz.func27, Tryz.func166, Tryz.func89, Tryz.func167, Tryz.func90, Tryz.func22, Tryz.func67, Tryz.func144, Tryz.func68, Tryz.func15, Tryz.func4, trivial⟩
theorem FSC : (fsL.all fun p => fnChk p.2) = true := by kernel_rfl
theorem FS : FsS Tryz.prog fs := FsS.of FSP FSC
/-! laws.szIntS: function 135 -/
noncomputable def f_laws_szIntS (x0 : List Int) (x1 : Int) : Option (Int) :=
  bif (decide ((IntKind.wrap .i64 (x1 - (x0.length : Int))) < (0 : Int))) then
    some (-1)
  else
    some (IntKind.wrap .i64 (x1 - (x0.length : Int)))
noncomputable def C135 : Con := ⟨[(.B, false, [(.sl R0)]), (.B, false, [(.int .i64)])], [(false, [(.int .i64)])], [(.sl R0), (.int .i64)], [(.int .i64)], fun (p : List Int × Int) => f_laws_szIntS p.1 p.2⟩
noncomputable abbrev K135 : Cons := []
noncomputable abbrev L135 : List (Nat × Loops) := []
abbrev Q135 : List (Nat × List (Int × Nat) × Nat) := []
noncomputable abbrev X135 : Nat → Ctx := ctxOf tb K135 L135 Q135
theorem E135 : ∀ x, funRun fs X135 6 135 C135 x = C135.fn x := fun x => by kernel_rfl
theorem B135 : ConB Tryz.prog 135 C135 := ConB.make FS MIX TY (cons := K135) (L := L135) (ptrs := Q135) trivial trivial trivial rfl rfl E135
theorem S135 : ConS Tryz.prog 135 C135 := B135.call rfl
/-! laws.szFrame: function 148 -/
noncomputable def f_laws_szFrame (x0 : Int) (x1 : List Int) (x2 : Bool) (x3 : Int) : Option (Int) :=
  (f_laws_szIntS x1 x3).bind fun y1 =>
  bif (decide (y1 < (0 : Int))) then
    some (-1)
  else
    some y1
noncomputable def C148 : Con := ⟨[(.B, true, [(.int .i64), (.sl R0), .bool]), (.B, false, [(.int .i64)])], [(false, [(.int .i64)])], [(.int .i64), (.sl R0), .bool, (.int .i64)], [(.int .i64)], fun (p : Int × List Int × Bool × Int) => f_laws_szFrame p.1 p.2.1 p.2.2.1 p.2.2.2⟩
noncomputable abbrev K148 : Cons := [(135, C135)]
noncomputable abbrev L148 : List (Nat × Loops) := []
abbrev Q148 : List (Nat × List (Int × Nat) × Nat) := []
noncomputable abbrev X148 : Nat → Ctx := ctxOf tb K148 L148 Q148
theorem E148 : ∀ x, funRun fs X148 6 148 C148 x = C148.fn x := fun x => by kernel_rfl
theorem B148 : ConB Tryz.prog 148 C148 := ConB.make FS MIX TY (cons := K148) (L := L148) (ptrs := Q148) ⟨S135, trivial⟩ trivial trivial rfl rfl E148
theorem S148 : ConS Tryz.prog 148 C148 := B148.call rfl
/-! laws.szFrameS: function 73 -/
noncomputable def f_laws_szFrameS.l0 : Nat → (List (Int × List Int × Bool)) → Int → Int → Int → Option ((Int) ⊕ (Int × Int))
  | 0, _, _, _, _ => none
  | n + 1, p2, p3, p4, p5 =>
    bif (decide (p5 < (p2.length : Int))) then
      bif ((decide ((0 : Int) ≤ p5)) && (decide (p5 < (p2.length : Int)))) then
      (f_laws_szFrame ((p2.getD p5.toNat (0, [], false)).1) ((p2.getD p5.toNat (0, [], false)).2.1) ((p2.getD p5.toNat (0, [], false)).2.2) p3).bind fun y6 =>
      bif (decide (y6 < (0 : Int))) then
        some (.inl (-1))
      else
        f_laws_szFrameS.l0 n p2 y6 p4 (IntKind.wrap .i64 (p5 + (1 : Int)))
      else none
    else
      some (.inr (p3, p4))
noncomputable def f_laws_szFrameS (x0 : List (Int × List Int × Bool)) (x1 : Int) : Option (Int) :=
  bif (decide ((IntKind.wrap .i64 (x1 - (x0.length : Int))) < (0 : Int))) then
    some (-1)
  else
    (f_laws_szFrameS.l0 N x0 (IntKind.wrap .i64 (x1 - (x0.length : Int))) 0 0).bind fun r7 =>
    cs r7 (fun a8 =>
      some a8) (fun b9 =>
      some b9.1)
noncomputable def C73 : Con := ⟨[(.B, false, [(.sl R1)]), (.B, false, [(.int .i64)])], [(false, [(.int .i64)])], [(.sl R1), (.int .i64)], [(.int .i64)], fun (p : (List (Int × List Int × Bool)) × Int) => f_laws_szFrameS p.1 p.2⟩
noncomputable def f_laws_szFrameS.l0.c : LoopCon := ⟨1000, 6, [0, 1, 4, 5], ⟨[(0, .bor none R1 []), (1, .int .i64 0), (4, .int .i64 0), (5, .int .i64 0)], [], 1000⟩, [(.sl R1), (.int .i64), (.int .i64), (.int .i64)], [⟨.ret, [4], ⟨[(4, .int .i64 0)], [], 1000⟩, [(.int .i64)]⟩, ⟨.exit 0, [1, 4], ⟨[(1, .int .i64 0), (4, .int .i64 0)], [], 1000⟩, [(.int .i64), (.int .i64)]⟩], fun (p : (List (Int × List Int × Bool)) × Int × Int × Int) => f_laws_szFrameS.l0 N p.1 p.2.1 p.2.2.1 p.2.2.2⟩
noncomputable abbrev K73 : Cons := [(148, C148)]
noncomputable abbrev L73 : List (Nat × Loops) := [(73, [(5, f_laws_szFrameS.l0.c)])]
abbrev Q73 : List (Nat × List (Int × Nat) × Nat) := []
noncomputable abbrev X73 : Nat → Ctx := ctxOf tb K73 L73 Q73
theorem f_laws_szFrameS.l0.ok : ∀ n p, (fun (p : (List (Int × List Int × Bool)) × Int × Int × Int) => f_laws_szFrameS.l0 n p.1 p.2.1 p.2.2.1 p.2.2.2) p = iterD (roundOf fs X73 6 73 5 false f_laws_szFrameS.l0.c) n p :=
  iter_of (l := fun n => fun (p : (List (Int × List Int × Bool)) × Int × Int × Int) => f_laws_szFrameS.l0 n p.1 p.2.1 p.2.2.1 p.2.2.2) (fun _ => rfl) (fun n p => by kernel_rfl)
theorem E73 : ∀ x, funRun fs X73 6 73 C73 x = C73.fn x := fun x => by kernel_rfl
theorem B73 : ConB Tryz.prog 73 C73 := ConB.make FS MIX TY (cons := K73) (L := L73) (ptrs := Q73) ⟨S148, trivial⟩ trivial ⟨⟨⟨N, fun p => f_laws_szFrameS.l0.ok N p⟩, trivial⟩, trivial⟩ rfl rfl E73
theorem S73 : ConS Tryz.prog 73 C73 := B73.call rfl
/-! laws.szBoolS: function 194 -/
noncomputable def f_laws_szBoolS (x0 : List Bool) (x1 : Int) : Option (Int) :=
  bif (decide ((IntKind.wrap .i64 (x1 - (x0.length : Int))) < (0 : Int))) then
    some (-1)
  else
    some (IntKind.wrap .i64 (x1 - (x0.length : Int)))
noncomputable def C194 : Con := ⟨[(.B, false, [(.sl R2)]), (.B, false, [(.int .i64)])], [(false, [(.int .i64)])], [(.sl R2), (.int .i64)], [(.int .i64)], fun (p : List Bool × Int) => f_laws_szBoolS p.1 p.2⟩
noncomputable abbrev K194 : Cons := []
noncomputable abbrev L194 : List (Nat × Loops) := []
abbrev Q194 : List (Nat × List (Int × Nat) × Nat) := []
noncomputable abbrev X194 : Nat → Ctx := ctxOf tb K194 L194 Q194
theorem E194 : ∀ x, funRun fs X194 6 194 C194 x = C194.fn x := fun x => by kernel_rfl
theorem B194 : ConB Tryz.prog 194 C194 := ConB.make FS MIX TY (cons := K194) (L := L194) (ptrs := Q194) trivial trivial trivial rfl rfl E194
theorem S194 : ConS Tryz.prog 194 C194 := B194.call rfl
/-! laws.szWaitS: function 195 -/
noncomputable def f_laws_szWaitS (x0 : List (Int × Bool)) (x1 : Int) : Option (Int) :=
  bif (decide ((IntKind.wrap .i64 (x1 - (x0.length : Int))) < (0 : Int))) then
    some (-1)
  else
    some (IntKind.wrap .i64 (x1 - (x0.length : Int)))
noncomputable def C195 : Con := ⟨[(.B, false, [(.sl R3)]), (.B, false, [(.int .i64)])], [(false, [(.int .i64)])], [(.sl R3), (.int .i64)], [(.int .i64)], fun (p : (List (Int × Bool)) × Int) => f_laws_szWaitS p.1 p.2⟩
noncomputable abbrev K195 : Cons := []
noncomputable abbrev L195 : List (Nat × Loops) := []
abbrev Q195 : List (Nat × List (Int × Nat) × Nat) := []
noncomputable abbrev X195 : Nat → Ctx := ctxOf tb K195 L195 Q195
theorem E195 : ∀ x, funRun fs X195 6 195 C195 x = C195.fn x := fun x => by kernel_rfl
theorem B195 : ConB Tryz.prog 195 C195 := ConB.make FS MIX TY (cons := K195) (L := L195) (ptrs := Q195) trivial trivial trivial rfl rfl E195
theorem S195 : ConS Tryz.prog 195 C195 := B195.call rfl
/-! laws.szHome: function 149 -/
noncomputable def f_laws_szHome (x0 : List Int) (x1 : Int) (x2 : List Bool) (x3 : Bool) (x4 : Int) (x5 : Bool) (x6 : Int) (x7 : List (Int × Bool)) (x8 : Int) : Option (Int) :=
  (f_laws_szIntS x0 x8).bind fun y10 =>
  bif (decide (y10 < (0 : Int))) then
    some (-1)
  else
    (f_laws_szBoolS x2 y10).bind fun y11 =>
    bif (decide (y11 < (0 : Int))) then
      some (-1)
    else
      (f_laws_szWaitS x7 y11).bind fun y12 =>
      bif (decide (y12 < (0 : Int))) then
        some (-1)
      else
        some y12
noncomputable def C149 : Con := ⟨[(.B, true, [(.sl R0), (.int .i64), (.sl R2), .bool, (.int .i64), .bool, (.int .i64), (.sl R3)]), (.B, false, [(.int .i64)])], [(false, [(.int .i64)])], [(.sl R0), (.int .i64), (.sl R2), .bool, (.int .i64), .bool, (.int .i64), (.sl R3), (.int .i64)], [(.int .i64)], fun (p : List Int × Int × List Bool × Bool × Int × Bool × Int × (List (Int × Bool)) × Int) => f_laws_szHome p.1 p.2.1 p.2.2.1 p.2.2.2.1 p.2.2.2.2.1 p.2.2.2.2.2.1 p.2.2.2.2.2.2.1 p.2.2.2.2.2.2.2.1 p.2.2.2.2.2.2.2.2⟩
noncomputable abbrev K149 : Cons := [(135, C135), (194, C194), (195, C195)]
noncomputable abbrev L149 : List (Nat × Loops) := []
abbrev Q149 : List (Nat × List (Int × Nat) × Nat) := []
noncomputable abbrev X149 : Nat → Ctx := ctxOf tb K149 L149 Q149
theorem E149 : ∀ x, funRun fs X149 6 149 C149 x = C149.fn x := fun x => by kernel_rfl
theorem B149 : ConB Tryz.prog 149 C149 := ConB.make FS MIX TY (cons := K149) (L := L149) (ptrs := Q149) ⟨S135, S194, S195, trivial⟩ trivial trivial rfl rfl E149
theorem S149 : ConS Tryz.prog 149 C149 := B149.call rfl
/-! laws.szHomeS: function 74 -/
noncomputable def f_laws_szHomeS.l0 : Nat → (List (List Int × Int × List Bool × Bool × Int × Bool × Int × (List (Int × Bool)))) → Int → Int → Int → Option ((Int) ⊕ (Int × Int))
  | 0, _, _, _, _ => none
  | n + 1, p13, p14, p15, p16 =>
    bif (decide (p16 < (p13.length : Int))) then
      bif ((decide ((0 : Int) ≤ p16)) && (decide (p16 < (p13.length : Int)))) then
      (f_laws_szHome ((p13.getD p16.toNat ([], 0, [], false, 0, false, 0, [])).1) ((p13.getD p16.toNat ([], 0, [], false, 0, false, 0, [])).2.1) ((p13.getD p16.toNat ([], 0, [], false, 0, false, 0, [])).2.2.1) ((p13.getD p16.toNat ([], 0, [], false, 0, false, 0, [])).2.2.2.1) ((p13.getD p16.toNat ([], 0, [], false, 0, false, 0, [])).2.2.2.2.1) ((p13.getD p16.toNat ([], 0, [], false, 0, false, 0, [])).2.2.2.2.2.1) ((p13.getD p16.toNat ([], 0, [], false, 0, false, 0, [])).2.2.2.2.2.2.1) ((p13.getD p16.toNat ([], 0, [], false, 0, false, 0, [])).2.2.2.2.2.2.2) p14).bind fun y17 =>
      bif (decide (y17 < (0 : Int))) then
        some (.inl (-1))
      else
        f_laws_szHomeS.l0 n p13 y17 p15 (IntKind.wrap .i64 (p16 + (1 : Int)))
      else none
    else
      some (.inr (p14, p15))
noncomputable def f_laws_szHomeS (x0 : List (List Int × Int × List Bool × Bool × Int × Bool × Int × (List (Int × Bool)))) (x1 : Int) : Option (Int) :=
  bif (decide ((IntKind.wrap .i64 (x1 - (x0.length : Int))) < (0 : Int))) then
    some (-1)
  else
    (f_laws_szHomeS.l0 N x0 (IntKind.wrap .i64 (x1 - (x0.length : Int))) 0 0).bind fun r18 =>
    cs r18 (fun a19 =>
      some a19) (fun b20 =>
      some b20.1)
noncomputable def C74 : Con := ⟨[(.B, false, [(.sl R4)]), (.B, false, [(.int .i64)])], [(false, [(.int .i64)])], [(.sl R4), (.int .i64)], [(.int .i64)], fun (p : (List (List Int × Int × List Bool × Bool × Int × Bool × Int × (List (Int × Bool)))) × Int) => f_laws_szHomeS p.1 p.2⟩
noncomputable def f_laws_szHomeS.l0.c : LoopCon := ⟨1000, 6, [0, 1, 4, 5], ⟨[(0, .bor none R4 []), (1, .int .i64 0), (4, .int .i64 0), (5, .int .i64 0)], [], 1000⟩, [(.sl R4), (.int .i64), (.int .i64), (.int .i64)], [⟨.ret, [4], ⟨[(4, .int .i64 0)], [], 1000⟩, [(.int .i64)]⟩, ⟨.exit 0, [1, 4], ⟨[(1, .int .i64 0), (4, .int .i64 0)], [], 1000⟩, [(.int .i64), (.int .i64)]⟩], fun (p : (List (List Int × Int × List Bool × Bool × Int × Bool × Int × (List (Int × Bool)))) × Int × Int × Int) => f_laws_szHomeS.l0 N p.1 p.2.1 p.2.2.1 p.2.2.2⟩
noncomputable abbrev K74 : Cons := [(149, C149)]
noncomputable abbrev L74 : List (Nat × Loops) := [(74, [(5, f_laws_szHomeS.l0.c)])]
abbrev Q74 : List (Nat × List (Int × Nat) × Nat) := []
noncomputable abbrev X74 : Nat → Ctx := ctxOf tb K74 L74 Q74
theorem f_laws_szHomeS.l0.ok : ∀ n p, (fun (p : (List (List Int × Int × List Bool × Bool × Int × Bool × Int × (List (Int × Bool)))) × Int × Int × Int) => f_laws_szHomeS.l0 n p.1 p.2.1 p.2.2.1 p.2.2.2) p = iterD (roundOf fs X74 6 74 5 false f_laws_szHomeS.l0.c) n p :=
  iter_of (l := fun n => fun (p : (List (List Int × Int × List Bool × Bool × Int × Bool × Int × (List (Int × Bool)))) × Int × Int × Int) => f_laws_szHomeS.l0 n p.1 p.2.1 p.2.2.1 p.2.2.2) (fun _ => rfl) (fun n p => by kernel_rfl)
theorem E74 : ∀ x, funRun fs X74 6 74 C74 x = C74.fn x := fun x => by kernel_rfl
theorem B74 : ConB Tryz.prog 74 C74 := ConB.make FS MIX TY (cons := K74) (L := L74) (ptrs := Q74) ⟨S149, trivial⟩ trivial ⟨⟨⟨N, fun p => f_laws_szHomeS.l0.ok N p⟩, trivial⟩, trivial⟩ rfl rfl E74
theorem S74 : ConS Tryz.prog 74 C74 := B74.call rfl
/-! laws.szMsg: function 53 -/
noncomputable def f_laws_szMsg (x0 : Int) (x1 : Int) (x2 : Bool) (x3 : List Int) (x4 : Int) : Option (Int) :=
  (f_laws_szIntS x3 x4).bind fun y21 =>
  bif (decide (y21 < (0 : Int))) then
    some (-1)
  else
    some y21
noncomputable def C53 : Con := ⟨[(.B, true, [(.int .i64), (.int .i64), .bool, (.sl R0)]), (.B, false, [(.int .i64)])], [(false, [(.int .i64)])], [(.int .i64), (.int .i64), .bool, (.sl R0), (.int .i64)], [(.int .i64)], fun (p : Int × Int × Bool × List Int × Int) => f_laws_szMsg p.1 p.2.1 p.2.2.1 p.2.2.2.1 p.2.2.2.2⟩
noncomputable abbrev K53 : Cons := [(135, C135)]
noncomputable abbrev L53 : List (Nat × Loops) := []
abbrev Q53 : List (Nat × List (Int × Nat) × Nat) := []
noncomputable abbrev X53 : Nat → Ctx := ctxOf tb K53 L53 Q53
theorem E53 : ∀ x, funRun fs X53 6 53 C53 x = C53.fn x := fun x => by kernel_rfl
theorem B53 : ConB Tryz.prog 53 C53 := ConB.make FS MIX TY (cons := K53) (L := L53) (ptrs := Q53) ⟨S135, trivial⟩ trivial trivial rfl rfl E53
theorem S53 : ConS Tryz.prog 53 C53 := B53.call rfl
/-! laws.szMsgS: function 196 -/
noncomputable def f_laws_szMsgS.l0 : Nat → (List (Int × Int × Bool × List Int)) → Int → Int → Int → Option ((Int) ⊕ (Int × Int))
  | 0, _, _, _, _ => none
  | n + 1, p22, p23, p24, p25 =>
    bif (decide (p25 < (p22.length : Int))) then
      bif ((decide ((0 : Int) ≤ p25)) && (decide (p25 < (p22.length : Int)))) then
      (f_laws_szMsg ((p22.getD p25.toNat (0, 0, false, [])).1) ((p22.getD p25.toNat (0, 0, false, [])).2.1) ((p22.getD p25.toNat (0, 0, false, [])).2.2.1) ((p22.getD p25.toNat (0, 0, false, [])).2.2.2) p23).bind fun y26 =>
      bif (decide (y26 < (0 : Int))) then
        some (.inl (-1))
      else
        f_laws_szMsgS.l0 n p22 y26 p24 (IntKind.wrap .i64 (p25 + (1 : Int)))
      else none
    else
      some (.inr (p23, p24))
noncomputable def f_laws_szMsgS (x0 : List (Int × Int × Bool × List Int)) (x1 : Int) : Option (Int) :=
  bif (decide ((IntKind.wrap .i64 (x1 - (x0.length : Int))) < (0 : Int))) then
    some (-1)
  else
    (f_laws_szMsgS.l0 N x0 (IntKind.wrap .i64 (x1 - (x0.length : Int))) 0 0).bind fun r27 =>
    cs r27 (fun a28 =>
      some a28) (fun b29 =>
      some b29.1)
noncomputable def C196 : Con := ⟨[(.B, false, [(.sl R5)]), (.B, false, [(.int .i64)])], [(false, [(.int .i64)])], [(.sl R5), (.int .i64)], [(.int .i64)], fun (p : (List (Int × Int × Bool × List Int)) × Int) => f_laws_szMsgS p.1 p.2⟩
noncomputable def f_laws_szMsgS.l0.c : LoopCon := ⟨1000, 6, [0, 1, 4, 5], ⟨[(0, .bor none R5 []), (1, .int .i64 0), (4, .int .i64 0), (5, .int .i64 0)], [], 1000⟩, [(.sl R5), (.int .i64), (.int .i64), (.int .i64)], [⟨.ret, [4], ⟨[(4, .int .i64 0)], [], 1000⟩, [(.int .i64)]⟩, ⟨.exit 0, [1, 4], ⟨[(1, .int .i64 0), (4, .int .i64 0)], [], 1000⟩, [(.int .i64), (.int .i64)]⟩], fun (p : (List (Int × Int × Bool × List Int)) × Int × Int × Int) => f_laws_szMsgS.l0 N p.1 p.2.1 p.2.2.1 p.2.2.2⟩
noncomputable abbrev K196 : Cons := [(53, C53)]
noncomputable abbrev L196 : List (Nat × Loops) := [(196, [(5, f_laws_szMsgS.l0.c)])]
abbrev Q196 : List (Nat × List (Int × Nat) × Nat) := []
noncomputable abbrev X196 : Nat → Ctx := ctxOf tb K196 L196 Q196
theorem f_laws_szMsgS.l0.ok : ∀ n p, (fun (p : (List (Int × Int × Bool × List Int)) × Int × Int × Int) => f_laws_szMsgS.l0 n p.1 p.2.1 p.2.2.1 p.2.2.2) p = iterD (roundOf fs X196 6 196 5 false f_laws_szMsgS.l0.c) n p :=
  iter_of (l := fun n => fun (p : (List (Int × Int × Bool × List Int)) × Int × Int × Int) => f_laws_szMsgS.l0 n p.1 p.2.1 p.2.2.1 p.2.2.2) (fun _ => rfl) (fun n p => by kernel_rfl)
theorem E196 : ∀ x, funRun fs X196 6 196 C196 x = C196.fn x := fun x => by kernel_rfl
theorem B196 : ConB Tryz.prog 196 C196 := ConB.make FS MIX TY (cons := K196) (L := L196) (ptrs := Q196) ⟨S53, trivial⟩ trivial ⟨⟨⟨N, fun p => f_laws_szMsgS.l0.ok N p⟩, trivial⟩, trivial⟩ rfl rfl E196
theorem S196 : ConS Tryz.prog 196 C196 := B196.call rfl
/-! laws.szSender: function 150 -/
noncomputable def f_laws_szSender (x0 : Int) (x1 : List (Int × Int × Bool × List Int)) (x2 : Int) : Option (Int) :=
  (f_laws_szMsgS x1 x2).bind fun y30 =>
  bif (decide (y30 < (0 : Int))) then
    some (-1)
  else
    some y30
noncomputable def C150 : Con := ⟨[(.B, true, [(.int .i64), (.sl R5)]), (.B, false, [(.int .i64)])], [(false, [(.int .i64)])], [(.int .i64), (.sl R5), (.int .i64)], [(.int .i64)], fun (p : Int × (List (Int × Int × Bool × List Int)) × Int) => f_laws_szSender p.1 p.2.1 p.2.2⟩
noncomputable abbrev K150 : Cons := [(196, C196)]
noncomputable abbrev L150 : List (Nat × Loops) := []
abbrev Q150 : List (Nat × List (Int × Nat) × Nat) := []
noncomputable abbrev X150 : Nat → Ctx := ctxOf tb K150 L150 Q150
theorem E150 : ∀ x, funRun fs X150 6 150 C150 x = C150.fn x := fun x => by kernel_rfl
theorem B150 : ConB Tryz.prog 150 C150 := ConB.make FS MIX TY (cons := K150) (L := L150) (ptrs := Q150) ⟨S196, trivial⟩ trivial trivial rfl rfl E150
theorem S150 : ConS Tryz.prog 150 C150 := B150.call rfl
/-! laws.szSenderS: function 75 -/
noncomputable def f_laws_szSenderS.l0 : Nat → (List (Int × (List (Int × Int × Bool × List Int)))) → Int → Int → Int → Option ((Int) ⊕ (Int × Int))
  | 0, _, _, _, _ => none
  | n + 1, p31, p32, p33, p34 =>
    bif (decide (p34 < (p31.length : Int))) then
      bif ((decide ((0 : Int) ≤ p34)) && (decide (p34 < (p31.length : Int)))) then
      (f_laws_szSender ((p31.getD p34.toNat (0, [])).1) ((p31.getD p34.toNat (0, [])).2) p32).bind fun y35 =>
      bif (decide (y35 < (0 : Int))) then
        some (.inl (-1))
      else
        f_laws_szSenderS.l0 n p31 y35 p33 (IntKind.wrap .i64 (p34 + (1 : Int)))
      else none
    else
      some (.inr (p32, p33))
noncomputable def f_laws_szSenderS (x0 : List (Int × (List (Int × Int × Bool × List Int)))) (x1 : Int) : Option (Int) :=
  bif (decide ((IntKind.wrap .i64 (x1 - (x0.length : Int))) < (0 : Int))) then
    some (-1)
  else
    (f_laws_szSenderS.l0 N x0 (IntKind.wrap .i64 (x1 - (x0.length : Int))) 0 0).bind fun r36 =>
    cs r36 (fun a37 =>
      some a37) (fun b38 =>
      some b38.1)
noncomputable def C75 : Con := ⟨[(.B, false, [(.sl R6)]), (.B, false, [(.int .i64)])], [(false, [(.int .i64)])], [(.sl R6), (.int .i64)], [(.int .i64)], fun (p : (List (Int × (List (Int × Int × Bool × List Int)))) × Int) => f_laws_szSenderS p.1 p.2⟩
noncomputable def f_laws_szSenderS.l0.c : LoopCon := ⟨1000, 6, [0, 1, 4, 5], ⟨[(0, .bor none R6 []), (1, .int .i64 0), (4, .int .i64 0), (5, .int .i64 0)], [], 1000⟩, [(.sl R6), (.int .i64), (.int .i64), (.int .i64)], [⟨.ret, [4], ⟨[(4, .int .i64 0)], [], 1000⟩, [(.int .i64)]⟩, ⟨.exit 0, [1, 4], ⟨[(1, .int .i64 0), (4, .int .i64 0)], [], 1000⟩, [(.int .i64), (.int .i64)]⟩], fun (p : (List (Int × (List (Int × Int × Bool × List Int)))) × Int × Int × Int) => f_laws_szSenderS.l0 N p.1 p.2.1 p.2.2.1 p.2.2.2⟩
noncomputable abbrev K75 : Cons := [(150, C150)]
noncomputable abbrev L75 : List (Nat × Loops) := [(75, [(5, f_laws_szSenderS.l0.c)])]
abbrev Q75 : List (Nat × List (Int × Nat) × Nat) := []
noncomputable abbrev X75 : Nat → Ctx := ctxOf tb K75 L75 Q75
theorem f_laws_szSenderS.l0.ok : ∀ n p, (fun (p : (List (Int × (List (Int × Int × Bool × List Int)))) × Int × Int × Int) => f_laws_szSenderS.l0 n p.1 p.2.1 p.2.2.1 p.2.2.2) p = iterD (roundOf fs X75 6 75 5 false f_laws_szSenderS.l0.c) n p :=
  iter_of (l := fun n => fun (p : (List (Int × (List (Int × Int × Bool × List Int)))) × Int × Int × Int) => f_laws_szSenderS.l0 n p.1 p.2.1 p.2.2.1 p.2.2.2) (fun _ => rfl) (fun n p => by kernel_rfl)
theorem E75 : ∀ x, funRun fs X75 6 75 C75 x = C75.fn x := fun x => by kernel_rfl
theorem B75 : ConB Tryz.prog 75 C75 := ConB.make FS MIX TY (cons := K75) (L := L75) (ptrs := Q75) ⟨S150, trivial⟩ trivial ⟨⟨⟨N, fun p => f_laws_szSenderS.l0.ok N p⟩, trivial⟩, trivial⟩ rfl rfl E75
theorem S75 : ConS Tryz.prog 75 C75 := B75.call rfl
/-! laws.szReceiverS: function 76 -/
noncomputable def f_laws_szReceiverS (x0 : List Int) (x1 : Int) : Option (Int) :=
  bif (decide ((IntKind.wrap .i64 (x1 - (x0.length : Int))) < (0 : Int))) then
    some (-1)
  else
    some (IntKind.wrap .i64 (x1 - (x0.length : Int)))
noncomputable def C76 : Con := ⟨[(.B, false, [(.sl R0)]), (.B, false, [(.int .i64)])], [(false, [(.int .i64)])], [(.sl R0), (.int .i64)], [(.int .i64)], fun (p : List Int × Int) => f_laws_szReceiverS p.1 p.2⟩
noncomputable abbrev K76 : Cons := []
noncomputable abbrev L76 : List (Nat × Loops) := []
abbrev Q76 : List (Nat × List (Int × Nat) × Nat) := []
noncomputable abbrev X76 : Nat → Ctx := ctxOf tb K76 L76 Q76
theorem E76 : ∀ x, funRun fs X76 6 76 C76 x = C76.fn x := fun x => by kernel_rfl
theorem B76 : ConB Tryz.prog 76 C76 := ConB.make FS MIX TY (cons := K76) (L := L76) (ptrs := Q76) trivial trivial trivial rfl rfl E76
theorem S76 : ConS Tryz.prog 76 C76 := B76.call rfl
/-! laws.szNode: function 18 -/
noncomputable def f_laws_szNode (x0 : Int) (x1 : List (Int × List Int × Bool)) (x2 : List (List Int × Int × List Bool × Bool × Int × Bool × Int × (List (Int × Bool)))) (x3 : List (Int × (List (Int × Int × Bool × List Int)))) (x4 : List Int) (x5 : Int) : Option (Int) :=
  (f_laws_szFrameS x1 x5).bind fun y39 =>
  bif (decide (y39 < (0 : Int))) then
    some (-1)
  else
    (f_laws_szHomeS x2 y39).bind fun y40 =>
    bif (decide (y40 < (0 : Int))) then
      some (-1)
    else
      (f_laws_szSenderS x3 y40).bind fun y41 =>
      bif (decide (y41 < (0 : Int))) then
        some (-1)
      else
        (f_laws_szReceiverS x4 y41).bind fun y42 =>
        bif (decide (y42 < (0 : Int))) then
          some (-1)
        else
          some y42
noncomputable def C18 : Con := ⟨[(.B, true, [(.int .i64), (.sl R1), (.sl R4), (.sl R6), (.sl R0)]), (.B, false, [(.int .i64)])], [(false, [(.int .i64)])], [(.int .i64), (.sl R1), (.sl R4), (.sl R6), (.sl R0), (.int .i64)], [(.int .i64)], fun (p : Int × (List (Int × List Int × Bool)) × (List (List Int × Int × List Bool × Bool × Int × Bool × Int × (List (Int × Bool)))) × (List (Int × (List (Int × Int × Bool × List Int)))) × List Int × Int) => f_laws_szNode p.1 p.2.1 p.2.2.1 p.2.2.2.1 p.2.2.2.2.1 p.2.2.2.2.2⟩
noncomputable abbrev K18 : Cons := [(73, C73), (74, C74), (75, C75), (76, C76)]
noncomputable abbrev L18 : List (Nat × Loops) := []
abbrev Q18 : List (Nat × List (Int × Nat) × Nat) := []
noncomputable abbrev X18 : Nat → Ctx := ctxOf tb K18 L18 Q18
theorem E18 : ∀ x, funRun fs X18 6 18 C18 x = C18.fn x := fun x => by kernel_rfl
theorem B18 : ConB Tryz.prog 18 C18 := ConB.make FS MIX TY (cons := K18) (L := L18) (ptrs := Q18) ⟨S73, S74, S75, S76, trivial⟩ trivial trivial rfl rfl E18
theorem S18 : ConS Tryz.prog 18 C18 := B18.call rfl
/-! laws.szNodeS: function 57 -/
noncomputable def f_laws_szNodeS.l0 : Nat → (List (Int × (List (Int × List Int × Bool)) × (List (List Int × Int × List Bool × Bool × Int × Bool × Int × (List (Int × Bool)))) × (List (Int × (List (Int × Int × Bool × List Int)))) × List Int)) → Int → Int → Int → Option ((Int) ⊕ (Int × Int))
  | 0, _, _, _, _ => none
  | n + 1, p43, p44, p45, p46 =>
    bif (decide (p46 < (p43.length : Int))) then
      bif ((decide ((0 : Int) ≤ p46)) && (decide (p46 < (p43.length : Int)))) then
      (f_laws_szNode ((p43.getD p46.toNat (0, [], [], [], [])).1) ((p43.getD p46.toNat (0, [], [], [], [])).2.1) ((p43.getD p46.toNat (0, [], [], [], [])).2.2.1) ((p43.getD p46.toNat (0, [], [], [], [])).2.2.2.1) ((p43.getD p46.toNat (0, [], [], [], [])).2.2.2.2) p44).bind fun y47 =>
      bif (decide (y47 < (0 : Int))) then
        some (.inl (-1))
      else
        f_laws_szNodeS.l0 n p43 y47 p45 (IntKind.wrap .i64 (p46 + (1 : Int)))
      else none
    else
      some (.inr (p44, p45))
noncomputable def f_laws_szNodeS (x0 : List (Int × (List (Int × List Int × Bool)) × (List (List Int × Int × List Bool × Bool × Int × Bool × Int × (List (Int × Bool)))) × (List (Int × (List (Int × Int × Bool × List Int)))) × List Int)) (x1 : Int) : Option (Int) :=
  bif (decide ((IntKind.wrap .i64 (x1 - (x0.length : Int))) < (0 : Int))) then
    some (-1)
  else
    (f_laws_szNodeS.l0 N x0 (IntKind.wrap .i64 (x1 - (x0.length : Int))) 0 0).bind fun r48 =>
    cs r48 (fun a49 =>
      some a49) (fun b50 =>
      some b50.1)
noncomputable def C57 : Con := ⟨[(.B, false, [(.sl R7)]), (.B, false, [(.int .i64)])], [(false, [(.int .i64)])], [(.sl R7), (.int .i64)], [(.int .i64)], fun (p : (List (Int × (List (Int × List Int × Bool)) × (List (List Int × Int × List Bool × Bool × Int × Bool × Int × (List (Int × Bool)))) × (List (Int × (List (Int × Int × Bool × List Int)))) × List Int)) × Int) => f_laws_szNodeS p.1 p.2⟩
noncomputable def f_laws_szNodeS.l0.c : LoopCon := ⟨1000, 6, [0, 1, 4, 5], ⟨[(0, .bor none R7 []), (1, .int .i64 0), (4, .int .i64 0), (5, .int .i64 0)], [], 1000⟩, [(.sl R7), (.int .i64), (.int .i64), (.int .i64)], [⟨.ret, [4], ⟨[(4, .int .i64 0)], [], 1000⟩, [(.int .i64)]⟩, ⟨.exit 0, [1, 4], ⟨[(1, .int .i64 0), (4, .int .i64 0)], [], 1000⟩, [(.int .i64), (.int .i64)]⟩], fun (p : (List (Int × (List (Int × List Int × Bool)) × (List (List Int × Int × List Bool × Bool × Int × Bool × Int × (List (Int × Bool)))) × (List (Int × (List (Int × Int × Bool × List Int)))) × List Int)) × Int × Int × Int) => f_laws_szNodeS.l0 N p.1 p.2.1 p.2.2.1 p.2.2.2⟩
noncomputable abbrev K57 : Cons := [(18, C18)]
noncomputable abbrev L57 : List (Nat × Loops) := [(57, [(5, f_laws_szNodeS.l0.c)])]
abbrev Q57 : List (Nat × List (Int × Nat) × Nat) := []
noncomputable abbrev X57 : Nat → Ctx := ctxOf tb K57 L57 Q57
theorem f_laws_szNodeS.l0.ok : ∀ n p, (fun (p : (List (Int × (List (Int × List Int × Bool)) × (List (List Int × Int × List Bool × Bool × Int × Bool × Int × (List (Int × Bool)))) × (List (Int × (List (Int × Int × Bool × List Int)))) × List Int)) × Int × Int × Int) => f_laws_szNodeS.l0 n p.1 p.2.1 p.2.2.1 p.2.2.2) p = iterD (roundOf fs X57 6 57 5 false f_laws_szNodeS.l0.c) n p :=
  iter_of (l := fun n => fun (p : (List (Int × (List (Int × List Int × Bool)) × (List (List Int × Int × List Bool × Bool × Int × Bool × Int × (List (Int × Bool)))) × (List (Int × (List (Int × Int × Bool × List Int)))) × List Int)) × Int × Int × Int) => f_laws_szNodeS.l0 n p.1 p.2.1 p.2.2.1 p.2.2.2) (fun _ => rfl) (fun n p => by kernel_rfl)
theorem E57 : ∀ x, funRun fs X57 6 57 C57 x = C57.fn x := fun x => by kernel_rfl
theorem B57 : ConB Tryz.prog 57 C57 := ConB.make FS MIX TY (cons := K57) (L := L57) (ptrs := Q57) ⟨S18, trivial⟩ trivial ⟨⟨⟨N, fun p => f_laws_szNodeS.l0.ok N p⟩, trivial⟩, trivial⟩ rfl rfl E57
theorem S57 : ConS Tryz.prog 57 C57 := B57.call rfl
/-! laws.szPacket: function 137 -/
noncomputable def f_laws_szPacket (x0 : Int) (x1 : Int) (x2 : Bool) (x3 : Int) (x4 : Int) (x5 : Int) (x6 : Bool) (x7 : List Int) (x8 : Int) : Option (Int) :=
  (f_laws_szMsg x4 x5 x6 x7 x8).bind fun y51 =>
  bif (decide (y51 < (0 : Int))) then
    some (-1)
  else
    some y51
noncomputable def C137 : Con := ⟨[(.B, true, [(.int .i64), (.int .i64), .bool, (.int .i64), (.int .i64), (.int .i64), .bool, (.sl R0)]), (.B, false, [(.int .i64)])], [(false, [(.int .i64)])], [(.int .i64), (.int .i64), .bool, (.int .i64), (.int .i64), (.int .i64), .bool, (.sl R0), (.int .i64)], [(.int .i64)], fun (p : Int × Int × Bool × Int × Int × Int × Bool × List Int × Int) => f_laws_szPacket p.1 p.2.1 p.2.2.1 p.2.2.2.1 p.2.2.2.2.1 p.2.2.2.2.2.1 p.2.2.2.2.2.2.1 p.2.2.2.2.2.2.2.1 p.2.2.2.2.2.2.2.2⟩
noncomputable abbrev K137 : Cons := [(53, C53)]
noncomputable abbrev L137 : List (Nat × Loops) := []
abbrev Q137 : List (Nat × List (Int × Nat) × Nat) := []
noncomputable abbrev X137 : Nat → Ctx := ctxOf tb K137 L137 Q137
theorem E137 : ∀ x, funRun fs X137 6 137 C137 x = C137.fn x := fun x => by kernel_rfl
theorem B137 : ConB Tryz.prog 137 C137 := ConB.make FS MIX TY (cons := K137) (L := L137) (ptrs := Q137) ⟨S53, trivial⟩ trivial trivial rfl rfl E137
theorem S137 : ConS Tryz.prog 137 C137 := B137.call rfl
/-! laws.szPacketS: function 58 -/
noncomputable def f_laws_szPacketS.l0 : Nat → (List (Int × Int × Bool × Int × Int × Int × Bool × List Int)) → Int → Int → Int → Option ((Int) ⊕ (Int × Int))
  | 0, _, _, _, _ => none
  | n + 1, p52, p53, p54, p55 =>
    bif (decide (p55 < (p52.length : Int))) then
      bif ((decide ((0 : Int) ≤ p55)) && (decide (p55 < (p52.length : Int)))) then
      (f_laws_szPacket ((p52.getD p55.toNat (0, 0, false, 0, 0, 0, false, [])).1) ((p52.getD p55.toNat (0, 0, false, 0, 0, 0, false, [])).2.1) ((p52.getD p55.toNat (0, 0, false, 0, 0, 0, false, [])).2.2.1) ((p52.getD p55.toNat (0, 0, false, 0, 0, 0, false, [])).2.2.2.1) ((p52.getD p55.toNat (0, 0, false, 0, 0, 0, false, [])).2.2.2.2.1) ((p52.getD p55.toNat (0, 0, false, 0, 0, 0, false, [])).2.2.2.2.2.1) ((p52.getD p55.toNat (0, 0, false, 0, 0, 0, false, [])).2.2.2.2.2.2.1) ((p52.getD p55.toNat (0, 0, false, 0, 0, 0, false, [])).2.2.2.2.2.2.2) p53).bind fun y56 =>
      bif (decide (y56 < (0 : Int))) then
        some (.inl (-1))
      else
        f_laws_szPacketS.l0 n p52 y56 p54 (IntKind.wrap .i64 (p55 + (1 : Int)))
      else none
    else
      some (.inr (p53, p54))
noncomputable def f_laws_szPacketS (x0 : List (Int × Int × Bool × Int × Int × Int × Bool × List Int)) (x1 : Int) : Option (Int) :=
  bif (decide ((IntKind.wrap .i64 (x1 - (x0.length : Int))) < (0 : Int))) then
    some (-1)
  else
    (f_laws_szPacketS.l0 N x0 (IntKind.wrap .i64 (x1 - (x0.length : Int))) 0 0).bind fun r57 =>
    cs r57 (fun a58 =>
      some a58) (fun b59 =>
      some b59.1)
noncomputable def C58 : Con := ⟨[(.B, false, [(.sl R8)]), (.B, false, [(.int .i64)])], [(false, [(.int .i64)])], [(.sl R8), (.int .i64)], [(.int .i64)], fun (p : (List (Int × Int × Bool × Int × Int × Int × Bool × List Int)) × Int) => f_laws_szPacketS p.1 p.2⟩
noncomputable def f_laws_szPacketS.l0.c : LoopCon := ⟨1000, 6, [0, 1, 4, 5], ⟨[(0, .bor none R8 []), (1, .int .i64 0), (4, .int .i64 0), (5, .int .i64 0)], [], 1000⟩, [(.sl R8), (.int .i64), (.int .i64), (.int .i64)], [⟨.ret, [4], ⟨[(4, .int .i64 0)], [], 1000⟩, [(.int .i64)]⟩, ⟨.exit 0, [1, 4], ⟨[(1, .int .i64 0), (4, .int .i64 0)], [], 1000⟩, [(.int .i64), (.int .i64)]⟩], fun (p : (List (Int × Int × Bool × Int × Int × Int × Bool × List Int)) × Int × Int × Int) => f_laws_szPacketS.l0 N p.1 p.2.1 p.2.2.1 p.2.2.2⟩
noncomputable abbrev K58 : Cons := [(137, C137)]
noncomputable abbrev L58 : List (Nat × Loops) := [(58, [(5, f_laws_szPacketS.l0.c)])]
abbrev Q58 : List (Nat × List (Int × Nat) × Nat) := []
noncomputable abbrev X58 : Nat → Ctx := ctxOf tb K58 L58 Q58
theorem f_laws_szPacketS.l0.ok : ∀ n p, (fun (p : (List (Int × Int × Bool × Int × Int × Int × Bool × List Int)) × Int × Int × Int) => f_laws_szPacketS.l0 n p.1 p.2.1 p.2.2.1 p.2.2.2) p = iterD (roundOf fs X58 6 58 5 false f_laws_szPacketS.l0.c) n p :=
  iter_of (l := fun n => fun (p : (List (Int × Int × Bool × Int × Int × Int × Bool × List Int)) × Int × Int × Int) => f_laws_szPacketS.l0 n p.1 p.2.1 p.2.2.1 p.2.2.2) (fun _ => rfl) (fun n p => by kernel_rfl)
theorem E58 : ∀ x, funRun fs X58 6 58 C58 x = C58.fn x := fun x => by kernel_rfl
theorem B58 : ConB Tryz.prog 58 C58 := ConB.make FS MIX TY (cons := K58) (L := L58) (ptrs := Q58) ⟨S137, trivial⟩ trivial ⟨⟨⟨N, fun p => f_laws_szPacketS.l0.ok N p⟩, trivial⟩, trivial⟩ rfl rfl E58
theorem S58 : ConS Tryz.prog 58 C58 := B58.call rfl
/-! laws.szWorld: function 11 -/
noncomputable def f_laws_szWorld (x0 : Int) (x1 : List (Int × (List (Int × List Int × Bool)) × (List (List Int × Int × List Bool × Bool × Int × Bool × Int × (List (Int × Bool)))) × (List (Int × (List (Int × Int × Bool × List Int)))) × List Int)) (x2 : List (Int × Int × Bool × Int × Int × Int × Bool × List Int)) (x3 : Int) : Option (Int) :=
  (f_laws_szNodeS x1 x3).bind fun y60 =>
  bif (decide (y60 < (0 : Int))) then
    some (-1)
  else
    (f_laws_szPacketS x2 y60).bind fun y61 =>
    bif (decide (y61 < (0 : Int))) then
      some (-1)
    else
      some y61
noncomputable def C11 : Con := ⟨[(.B, true, [(.int .i64), (.sl R7), (.sl R8)]), (.B, false, [(.int .i64)])], [(false, [(.int .i64)])], [(.int .i64), (.sl R7), (.sl R8), (.int .i64)], [(.int .i64)], fun (p : Int × (List (Int × (List (Int × List Int × Bool)) × (List (List Int × Int × List Bool × Bool × Int × Bool × Int × (List (Int × Bool)))) × (List (Int × (List (Int × Int × Bool × List Int)))) × List Int)) × (List (Int × Int × Bool × Int × Int × Int × Bool × List Int)) × Int) => f_laws_szWorld p.1 p.2.1 p.2.2.1 p.2.2.2⟩
noncomputable abbrev K11 : Cons := [(57, C57), (58, C58)]
noncomputable abbrev L11 : List (Nat × Loops) := []
abbrev Q11 : List (Nat × List (Int × Nat) × Nat) := []
noncomputable abbrev X11 : Nat → Ctx := ctxOf tb K11 L11 Q11
theorem E11 : ∀ x, funRun fs X11 6 11 C11 x = C11.fn x := fun x => by kernel_rfl
theorem B11 : ConB Tryz.prog 11 C11 := ConB.make FS MIX TY (cons := K11) (L := L11) (ptrs := Q11) ⟨S57, S58, trivial⟩ trivial trivial rfl rfl E11
theorem S11 : ConS Tryz.prog 11 C11 := B11.call rfl
/-! laws.toIntS: function 136 -/
noncomputable def f_laws_toIntS.l0 : Nat → (List Int) → Int → (List Int) → Option (List Int)
  | 0, _, _, _ => none
  | n + 1, p62, p63, p64 =>
    bif (decide (p63 < (p62.length : Int))) then
      bif ((decide ((0 : Int) ≤ p63)) && (decide (p63 < (p62.length : Int)))) then
      bif ((decide ((0 : Int) ≤ p63)) && (decide (p63 < (p64.length : Int)))) then
      (some ((p64.set p63.toNat (p62.getD p63.toNat 0)) : List Int)).bind fun z65 =>
      f_laws_toIntS.l0 n p62 (IntKind.wrap .i64 (p63 + (1 : Int))) z65
      else none
      else none
    else
      some p64
noncomputable def f_laws_toIntS (x0 : List Int) : Option (List Int) :=
  bif (decide ((0 : Int) ≤ (x0.length : Int)) && Nat.ble (x0.length : Int).toNat 17592186044416) then
  (f_laws_toIntS.l0 N x0 0 (List.replicate (x0.length : Int).toNat 0)).bind fun r66 =>
  some r66
  else none
noncomputable def C136 : Con := ⟨[(.B, false, [(.sl R0)])], [(false, [(.sl R0)])], [(.sl R0)], [(.sl R0)], fun (p : List Int) => f_laws_toIntS p⟩
noncomputable def f_laws_toIntS.l0.c : LoopCon := ⟨1000, 6, [0, 2, 3, 4], ⟨[(0, .bor none R0 []), (2, .nil (some R0)), (3, .ref 1000 [] none), (4, .int .i64 0)], [(1000, .row R0 [])], 1001⟩, [(.sl R0), (.int .i64), (.sl R0)], [⟨.exit 0, [2, 3], ⟨[(2, .nil (some R0)), (3, .ref 1000 [] none)], [(1000, .row R0 [])], 1001⟩, [(.sl R0)]⟩], fun (p : List Int × Int × List Int) => f_laws_toIntS.l0 N p.1 p.2.1 p.2.2⟩
noncomputable abbrev K136 : Cons := []
noncomputable abbrev L136 : List (Nat × Loops) := [(136, [(3, f_laws_toIntS.l0.c)])]
abbrev Q136 : List (Nat × List (Int × Nat) × Nat) := []
noncomputable abbrev X136 : Nat → Ctx := ctxOf tb K136 L136 Q136
theorem f_laws_toIntS.l0.ok : ∀ n p, (fun (p : List Int × Int × List Int) => f_laws_toIntS.l0 n p.1 p.2.1 p.2.2) p = iterD (roundOf fs X136 6 136 3 false f_laws_toIntS.l0.c) n p :=
  iter_of (l := fun n => fun (p : List Int × Int × List Int) => f_laws_toIntS.l0 n p.1 p.2.1 p.2.2) (fun _ => rfl) (fun n p => by kernel_rfl)
theorem E136 : ∀ x, funRun fs X136 6 136 C136 x = C136.fn x := fun x => by kernel_rfl
theorem B136 : ConB Tryz.prog 136 C136 := ConB.make FS MIX TY (cons := K136) (L := L136) (ptrs := Q136) trivial trivial ⟨⟨⟨N, fun p => f_laws_toIntS.l0.ok N p⟩, trivial⟩, trivial⟩ rfl rfl E136
theorem S136 : ConS Tryz.prog 136 C136 := B136.call rfl
/-! laws.toFrame: function 155 -/
noncomputable def f_laws_toFrame (x0 : Int) (x1 : List Int) (x2 : Bool) : Option (Int × List Int × Bool) :=
  (f_laws_toIntS x1).bind fun y67 =>
  some (x0, y67, x2)
noncomputable def C155 : Con := ⟨[(.B, true, [(.int .i64), (.sl R0), .bool])], [(true, [(.int .i64), (.sl R0), .bool])], [(.int .i64), (.sl R0), .bool], [(.int .i64), (.sl R0), .bool], fun (p : Int × List Int × Bool) => f_laws_toFrame p.1 p.2.1 p.2.2⟩
noncomputable abbrev K155 : Cons := [(136, C136)]
noncomputable abbrev L155 : List (Nat × Loops) := []
abbrev Q155 : List (Nat × List (Int × Nat) × Nat) := []
noncomputable abbrev X155 : Nat → Ctx := ctxOf tb K155 L155 Q155
theorem E155 : ∀ x, funRun fs X155 6 155 C155 x = C155.fn x := fun x => by kernel_rfl
theorem B155 : ConB Tryz.prog 155 C155 := ConB.make FS MIX TY (cons := K155) (L := L155) (ptrs := Q155) ⟨S136, trivial⟩ trivial trivial rfl rfl E155
theorem S155 : ConS Tryz.prog 155 C155 := B155.call rfl
/-! laws.toFrameS: function 80 -/
noncomputable def f_laws_toFrameS.l0 : Nat → (List (Int × List Int × Bool)) → Int → (List (Int × List Int × Bool)) → Option ((List (Int × List Int × Bool)))
  | 0, _, _, _ => none
  | n + 1, p68, p69, p70 =>
    bif (decide (p69 < (p68.length : Int))) then
      bif ((decide ((0 : Int) ≤ p69)) && (decide (p69 < (p68.length : Int)))) then
      (f_laws_toFrame ((p68.getD p69.toNat (0, [], false)).1) ((p68.getD p69.toNat (0, [], false)).2.1) ((p68.getD p69.toNat (0, [], false)).2.2)).bind fun y71 =>
      bif ((decide ((0 : Int) ≤ p69)) && (decide (p69 < (p70.length : Int)))) then
      (some ((p70.set p69.toNat (y71.1, y71.2.1, y71.2.2)) : List (Int × List Int × Bool))).bind fun z72 =>
      f_laws_toFrameS.l0 n p68 (IntKind.wrap .i64 (p69 + (1 : Int))) z72
      else none
      else none
    else
      some p70
noncomputable def f_laws_toFrameS (x0 : List (Int × List Int × Bool)) : Option ((List (Int × List Int × Bool))) :=
  bif (decide ((0 : Int) ≤ (x0.length : Int)) && Nat.ble (x0.length : Int).toNat 3518437208883) then
  (f_laws_toFrameS.l0 N x0 0 (List.replicate (x0.length : Int).toNat (0, [], false))).bind fun r73 =>
  some r73
  else none
noncomputable def C80 : Con := ⟨[(.B, false, [(.sl R1)])], [(false, [(.sl R1)])], [(.sl R1)], [(.sl R1)], fun (p : (List (Int × List Int × Bool))) => f_laws_toFrameS p⟩
noncomputable def f_laws_toFrameS.l0.c : LoopCon := ⟨1000, 6, [0, 2, 3, 4], ⟨[(0, .bor none R1 []), (2, .nil (some R1)), (3, .ref 1000 [] none), (4, .int .i64 0)], [(1000, .row R1 [])], 1001⟩, [(.sl R1), (.int .i64), (.sl R1)], [⟨.exit 0, [2, 3], ⟨[(2, .nil (some R1)), (3, .ref 1000 [] none)], [(1000, .row R1 [])], 1001⟩, [(.sl R1)]⟩], fun (p : (List (Int × List Int × Bool)) × Int × (List (Int × List Int × Bool))) => f_laws_toFrameS.l0 N p.1 p.2.1 p.2.2⟩
noncomputable abbrev K80 : Cons := [(155, C155)]
noncomputable abbrev L80 : List (Nat × Loops) := [(80, [(3, f_laws_toFrameS.l0.c)])]
abbrev Q80 : List (Nat × List (Int × Nat) × Nat) := []
noncomputable abbrev X80 : Nat → Ctx := ctxOf tb K80 L80 Q80
theorem f_laws_toFrameS.l0.ok : ∀ n p, (fun (p : (List (Int × List Int × Bool)) × Int × (List (Int × List Int × Bool))) => f_laws_toFrameS.l0 n p.1 p.2.1 p.2.2) p = iterD (roundOf fs X80 6 80 3 false f_laws_toFrameS.l0.c) n p :=
  iter_of (l := fun n => fun (p : (List (Int × List Int × Bool)) × Int × (List (Int × List Int × Bool))) => f_laws_toFrameS.l0 n p.1 p.2.1 p.2.2) (fun _ => rfl) (fun n p => by kernel_rfl)
theorem E80 : ∀ x, funRun fs X80 6 80 C80 x = C80.fn x := fun x => by kernel_rfl
theorem B80 : ConB Tryz.prog 80 C80 := ConB.make FS MIX TY (cons := K80) (L := L80) (ptrs := Q80) ⟨S155, trivial⟩ trivial ⟨⟨⟨N, fun p => f_laws_toFrameS.l0.ok N p⟩, trivial⟩, trivial⟩ rfl rfl E80
theorem S80 : ConS Tryz.prog 80 C80 := B80.call rfl
/-! laws.toBoolS: function 197 -/
noncomputable def f_laws_toBoolS.l0 : Nat → (List Bool) → Int → (List Bool) → Option (List Bool)
  | 0, _, _, _ => none
  | n + 1, p74, p75, p76 =>
    bif (decide (p75 < (p74.length : Int))) then
      bif ((decide ((0 : Int) ≤ p75)) && (decide (p75 < (p74.length : Int)))) then
      bif ((decide ((0 : Int) ≤ p75)) && (decide (p75 < (p76.length : Int)))) then
      (some ((p76.set p75.toNat (p74.getD p75.toNat false)) : List Bool)).bind fun z77 =>
      f_laws_toBoolS.l0 n p74 (IntKind.wrap .i64 (p75 + (1 : Int))) z77
      else none
      else none
    else
      some p76
noncomputable def f_laws_toBoolS (x0 : List Bool) : Option (List Bool) :=
  bif (decide ((0 : Int) ≤ (x0.length : Int)) && Nat.ble (x0.length : Int).toNat 140737488355328) then
  (f_laws_toBoolS.l0 N x0 0 (List.replicate (x0.length : Int).toNat false)).bind fun r78 =>
  some r78
  else none
noncomputable def C197 : Con := ⟨[(.B, false, [(.sl R2)])], [(false, [(.sl R2)])], [(.sl R2)], [(.sl R2)], fun (p : List Bool) => f_laws_toBoolS p⟩
noncomputable def f_laws_toBoolS.l0.c : LoopCon := ⟨1000, 6, [0, 2, 3, 4], ⟨[(0, .bor none R2 []), (2, .nil (some R2)), (3, .ref 1000 [] none), (4, .int .i64 0)], [(1000, .row R2 [])], 1001⟩, [(.sl R2), (.int .i64), (.sl R2)], [⟨.exit 0, [2, 3], ⟨[(2, .nil (some R2)), (3, .ref 1000 [] none)], [(1000, .row R2 [])], 1001⟩, [(.sl R2)]⟩], fun (p : List Bool × Int × List Bool) => f_laws_toBoolS.l0 N p.1 p.2.1 p.2.2⟩
noncomputable abbrev K197 : Cons := []
noncomputable abbrev L197 : List (Nat × Loops) := [(197, [(3, f_laws_toBoolS.l0.c)])]
abbrev Q197 : List (Nat × List (Int × Nat) × Nat) := []
noncomputable abbrev X197 : Nat → Ctx := ctxOf tb K197 L197 Q197
theorem f_laws_toBoolS.l0.ok : ∀ n p, (fun (p : List Bool × Int × List Bool) => f_laws_toBoolS.l0 n p.1 p.2.1 p.2.2) p = iterD (roundOf fs X197 6 197 3 false f_laws_toBoolS.l0.c) n p :=
  iter_of (l := fun n => fun (p : List Bool × Int × List Bool) => f_laws_toBoolS.l0 n p.1 p.2.1 p.2.2) (fun _ => rfl) (fun n p => by kernel_rfl)
theorem E197 : ∀ x, funRun fs X197 6 197 C197 x = C197.fn x := fun x => by kernel_rfl
theorem B197 : ConB Tryz.prog 197 C197 := ConB.make FS MIX TY (cons := K197) (L := L197) (ptrs := Q197) trivial trivial ⟨⟨⟨N, fun p => f_laws_toBoolS.l0.ok N p⟩, trivial⟩, trivial⟩ rfl rfl E197
theorem S197 : ConS Tryz.prog 197 C197 := B197.call rfl
/-! laws.toWait: function 198 -/
noncomputable def f_laws_toWait (x0 : Int) (x1 : Bool) : Option (Int × Bool) :=
  some (x0, x1)
noncomputable def C198 : Con := ⟨[(.B, true, [(.int .i64), .bool])], [(true, [(.int .i64), .bool])], [(.int .i64), .bool], [(.int .i64), .bool], fun (p : Int × Bool) => f_laws_toWait p.1 p.2⟩
noncomputable abbrev K198 : Cons := []
noncomputable abbrev L198 : List (Nat × Loops) := []
abbrev Q198 : List (Nat × List (Int × Nat) × Nat) := []
noncomputable abbrev X198 : Nat → Ctx := ctxOf tb K198 L198 Q198
theorem E198 : ∀ x, funRun fs X198 6 198 C198 x = C198.fn x := fun x => by kernel_rfl
theorem B198 : ConB Tryz.prog 198 C198 := ConB.make FS MIX TY (cons := K198) (L := L198) (ptrs := Q198) trivial trivial trivial rfl rfl E198
theorem S198 : ConS Tryz.prog 198 C198 := B198.call rfl
/-! laws.toWaitS: function 199 -/
noncomputable def f_laws_toWaitS.l0 : Nat → (List (Int × Bool)) → Int → (List (Int × Bool)) → Option ((List (Int × Bool)))
  | 0, _, _, _ => none
  | n + 1, p79, p80, p81 =>
    bif (decide (p80 < (p79.length : Int))) then
      bif ((decide ((0 : Int) ≤ p80)) && (decide (p80 < (p79.length : Int)))) then
      (f_laws_toWait ((p79.getD p80.toNat (0, false)).1) ((p79.getD p80.toNat (0, false)).2)).bind fun y82 =>
      bif ((decide ((0 : Int) ≤ p80)) && (decide (p80 < (p81.length : Int)))) then
      (some ((p81.set p80.toNat (y82.1, y82.2)) : List (Int × Bool))).bind fun z83 =>
      f_laws_toWaitS.l0 n p79 (IntKind.wrap .i64 (p80 + (1 : Int))) z83
      else none
      else none
    else
      some p81
noncomputable def f_laws_toWaitS (x0 : List (Int × Bool)) : Option ((List (Int × Bool))) :=
  bif (decide ((0 : Int) ≤ (x0.length : Int)) && Nat.ble (x0.length : Int).toNat 8796093022208) then
  (f_laws_toWaitS.l0 N x0 0 (List.replicate (x0.length : Int).toNat (0, false))).bind fun r84 =>
  some r84
  else none
noncomputable def C199 : Con := ⟨[(.B, false, [(.sl R3)])], [(false, [(.sl R3)])], [(.sl R3)], [(.sl R3)], fun (p : (List (Int × Bool))) => f_laws_toWaitS p⟩
noncomputable def f_laws_toWaitS.l0.c : LoopCon := ⟨1000, 6, [0, 2, 3, 4], ⟨[(0, .bor none R3 []), (2, .nil (some R3)), (3, .ref 1000 [] none), (4, .int .i64 0)], [(1000, .row R3 [])], 1001⟩, [(.sl R3), (.int .i64), (.sl R3)], [⟨.exit 0, [2, 3], ⟨[(2, .nil (some R3)), (3, .ref 1000 [] none)], [(1000, .row R3 [])], 1001⟩, [(.sl R3)]⟩], fun (p : (List (Int × Bool)) × Int × (List (Int × Bool))) => f_laws_toWaitS.l0 N p.1 p.2.1 p.2.2⟩
noncomputable abbrev K199 : Cons := [(198, C198)]
noncomputable abbrev L199 : List (Nat × Loops) := [(199, [(3, f_laws_toWaitS.l0.c)])]
abbrev Q199 : List (Nat × List (Int × Nat) × Nat) := []
noncomputable abbrev X199 : Nat → Ctx := ctxOf tb K199 L199 Q199
theorem f_laws_toWaitS.l0.ok : ∀ n p, (fun (p : (List (Int × Bool)) × Int × (List (Int × Bool))) => f_laws_toWaitS.l0 n p.1 p.2.1 p.2.2) p = iterD (roundOf fs X199 6 199 3 false f_laws_toWaitS.l0.c) n p :=
  iter_of (l := fun n => fun (p : (List (Int × Bool)) × Int × (List (Int × Bool))) => f_laws_toWaitS.l0 n p.1 p.2.1 p.2.2) (fun _ => rfl) (fun n p => by kernel_rfl)
theorem E199 : ∀ x, funRun fs X199 6 199 C199 x = C199.fn x := fun x => by kernel_rfl
theorem B199 : ConB Tryz.prog 199 C199 := ConB.make FS MIX TY (cons := K199) (L := L199) (ptrs := Q199) ⟨S198, trivial⟩ trivial ⟨⟨⟨N, fun p => f_laws_toWaitS.l0.ok N p⟩, trivial⟩, trivial⟩ rfl rfl E199
theorem S199 : ConS Tryz.prog 199 C199 := B199.call rfl
/-! laws.toHome: function 156 -/
noncomputable def f_laws_toHome (x0 : List Int) (x1 : Int) (x2 : List Bool) (x3 : Bool) (x4 : Int) (x5 : Bool) (x6 : Int) (x7 : List (Int × Bool)) : Option (List Int × Int × List Bool × Bool × Int × Bool × Int × (List (Int × Bool))) :=
  (f_laws_toIntS x0).bind fun y85 =>
  (f_laws_toBoolS x2).bind fun y86 =>
  (f_laws_toWait x4 x5).bind fun y87 =>
  (f_laws_toWaitS x7).bind fun y88 =>
  some (y85, x1, y86, x3, y87.1, y87.2, x6, y88)
noncomputable def C156 : Con := ⟨[(.B, true, [(.sl R0), (.int .i64), (.sl R2), .bool, (.int .i64), .bool, (.int .i64), (.sl R3)])], [(true, [(.sl R0), (.int .i64), (.sl R2), .bool, (.int .i64), .bool, (.int .i64), (.sl R3)])], [(.sl R0), (.int .i64), (.sl R2), .bool, (.int .i64), .bool, (.int .i64), (.sl R3)], [(.sl R0), (.int .i64), (.sl R2), .bool, (.int .i64), .bool, (.int .i64), (.sl R3)], fun (p : List Int × Int × List Bool × Bool × Int × Bool × Int × (List (Int × Bool))) => f_laws_toHome p.1 p.2.1 p.2.2.1 p.2.2.2.1 p.2.2.2.2.1 p.2.2.2.2.2.1 p.2.2.2.2.2.2.1 p.2.2.2.2.2.2.2⟩
noncomputable abbrev K156 : Cons := [(136, C136), (197, C197), (198, C198), (199, C199)]
noncomputable abbrev L156 : List (Nat × Loops) := []
abbrev Q156 : List (Nat × List (Int × Nat) × Nat) := []
noncomputable abbrev X156 : Nat → Ctx := ctxOf tb K156 L156 Q156
theorem E156 : ∀ x, funRun fs X156 6 156 C156 x = C156.fn x := fun x => by kernel_rfl
theorem B156 : ConB Tryz.prog 156 C156 := ConB.make FS MIX TY (cons := K156) (L := L156) (ptrs := Q156) ⟨S136, S197, S198, S199, trivial⟩ trivial trivial rfl rfl E156
theorem S156 : ConS Tryz.prog 156 C156 := B156.call rfl
/-! laws.toHomeS: function 81 -/
noncomputable def f_laws_toHomeS.l0 : Nat → (List (List Int × Int × List Bool × Bool × Int × Bool × Int × (List (Int × Bool)))) → Int → (List (List Int × Int × List Bool × Bool × Int × Bool × Int × (List (Int × Bool)))) → Option ((List (List Int × Int × List Bool × Bool × Int × Bool × Int × (List (Int × Bool)))))
  | 0, _, _, _ => none
  | n + 1, p89, p90, p91 =>
    bif (decide (p90 < (p89.length : Int))) then
      bif ((decide ((0 : Int) ≤ p90)) && (decide (p90 < (p89.length : Int)))) then
      (f_laws_toHome ((p89.getD p90.toNat ([], 0, [], false, 0, false, 0, [])).1) ((p89.getD p90.toNat ([], 0, [], false, 0, false, 0, [])).2.1) ((p89.getD p90.toNat ([], 0, [], false, 0, false, 0, [])).2.2.1) ((p89.getD p90.toNat ([], 0, [], false, 0, false, 0, [])).2.2.2.1) ((p89.getD p90.toNat ([], 0, [], false, 0, false, 0, [])).2.2.2.2.1) ((p89.getD p90.toNat ([], 0, [], false, 0, false, 0, [])).2.2.2.2.2.1) ((p89.getD p90.toNat ([], 0, [], false, 0, false, 0, [])).2.2.2.2.2.2.1) ((p89.getD p90.toNat ([], 0, [], false, 0, false, 0, [])).2.2.2.2.2.2.2)).bind fun y92 =>
      bif ((decide ((0 : Int) ≤ p90)) && (decide (p90 < (p91.length : Int)))) then
      (some ((p91.set p90.toNat (y92.1, y92.2.1, y92.2.2.1, y92.2.2.2.1, y92.2.2.2.2.1, y92.2.2.2.2.2.1, y92.2.2.2.2.2.2.1, y92.2.2.2.2.2.2.2)) : List (List Int × Int × List Bool × Bool × Int × Bool × Int × (List (Int × Bool))))).bind fun z93 =>
      f_laws_toHomeS.l0 n p89 (IntKind.wrap .i64 (p90 + (1 : Int))) z93
      else none
      else none
    else
      some p91
noncomputable def f_laws_toHomeS (x0 : List (List Int × Int × List Bool × Bool × Int × Bool × Int × (List (Int × Bool)))) : Option ((List (List Int × Int × List Bool × Bool × Int × Bool × Int × (List (Int × Bool))))) :=
  bif (decide ((0 : Int) ≤ (x0.length : Int)) && Nat.ble (x0.length : Int).toNat 1256584717458) then
  (f_laws_toHomeS.l0 N x0 0 (List.replicate (x0.length : Int).toNat ([], 0, [], false, 0, false, 0, []))).bind fun r94 =>
  some r94
  else none
noncomputable def C81 : Con := ⟨[(.B, false, [(.sl R4)])], [(false, [(.sl R4)])], [(.sl R4)], [(.sl R4)], fun (p : (List (List Int × Int × List Bool × Bool × Int × Bool × Int × (List (Int × Bool))))) => f_laws_toHomeS p⟩
noncomputable def f_laws_toHomeS.l0.c : LoopCon := ⟨1000, 6, [0, 2, 3, 4], ⟨[(0, .bor none R4 []), (2, .nil (some R4)), (3, .ref 1000 [] none), (4, .int .i64 0)], [(1000, .row R4 [])], 1001⟩, [(.sl R4), (.int .i64), (.sl R4)], [⟨.exit 0, [2, 3], ⟨[(2, .nil (some R4)), (3, .ref 1000 [] none)], [(1000, .row R4 [])], 1001⟩, [(.sl R4)]⟩], fun (p : (List (List Int × Int × List Bool × Bool × Int × Bool × Int × (List (Int × Bool)))) × Int × (List (List Int × Int × List Bool × Bool × Int × Bool × Int × (List (Int × Bool))))) => f_laws_toHomeS.l0 N p.1 p.2.1 p.2.2⟩
noncomputable abbrev K81 : Cons := [(156, C156)]
noncomputable abbrev L81 : List (Nat × Loops) := [(81, [(3, f_laws_toHomeS.l0.c)])]
abbrev Q81 : List (Nat × List (Int × Nat) × Nat) := []
noncomputable abbrev X81 : Nat → Ctx := ctxOf tb K81 L81 Q81
theorem f_laws_toHomeS.l0.ok : ∀ n p, (fun (p : (List (List Int × Int × List Bool × Bool × Int × Bool × Int × (List (Int × Bool)))) × Int × (List (List Int × Int × List Bool × Bool × Int × Bool × Int × (List (Int × Bool))))) => f_laws_toHomeS.l0 n p.1 p.2.1 p.2.2) p = iterD (roundOf fs X81 6 81 3 false f_laws_toHomeS.l0.c) n p :=
  iter_of (l := fun n => fun (p : (List (List Int × Int × List Bool × Bool × Int × Bool × Int × (List (Int × Bool)))) × Int × (List (List Int × Int × List Bool × Bool × Int × Bool × Int × (List (Int × Bool))))) => f_laws_toHomeS.l0 n p.1 p.2.1 p.2.2) (fun _ => rfl) (fun n p => by kernel_rfl)
theorem E81 : ∀ x, funRun fs X81 6 81 C81 x = C81.fn x := fun x => by kernel_rfl
theorem B81 : ConB Tryz.prog 81 C81 := ConB.make FS MIX TY (cons := K81) (L := L81) (ptrs := Q81) ⟨S156, trivial⟩ trivial ⟨⟨⟨N, fun p => f_laws_toHomeS.l0.ok N p⟩, trivial⟩, trivial⟩ rfl rfl E81
theorem S81 : ConS Tryz.prog 81 C81 := B81.call rfl
/-! laws.toMsg: function 54 -/
noncomputable def f_laws_toMsg (x0 : Int) (x1 : Int) (x2 : Bool) (x3 : List Int) : Option (Int × Int × Bool × List Int) :=
  (f_laws_toIntS x3).bind fun y95 =>
  some (x0, x1, x2, y95)
noncomputable def C54 : Con := ⟨[(.B, true, [(.int .i64), (.int .i64), .bool, (.sl R0)])], [(true, [(.int .i64), (.int .i64), .bool, (.sl R0)])], [(.int .i64), (.int .i64), .bool, (.sl R0)], [(.int .i64), (.int .i64), .bool, (.sl R0)], fun (p : Int × Int × Bool × List Int) => f_laws_toMsg p.1 p.2.1 p.2.2.1 p.2.2.2⟩
noncomputable abbrev K54 : Cons := [(136, C136)]
noncomputable abbrev L54 : List (Nat × Loops) := []
abbrev Q54 : List (Nat × List (Int × Nat) × Nat) := []
noncomputable abbrev X54 : Nat → Ctx := ctxOf tb K54 L54 Q54
theorem E54 : ∀ x, funRun fs X54 6 54 C54 x = C54.fn x := fun x => by kernel_rfl
theorem B54 : ConB Tryz.prog 54 C54 := ConB.make FS MIX TY (cons := K54) (L := L54) (ptrs := Q54) ⟨S136, trivial⟩ trivial trivial rfl rfl E54
theorem S54 : ConS Tryz.prog 54 C54 := B54.call rfl
/-! laws.toMsgS: function 200 -/
noncomputable def f_laws_toMsgS.l0 : Nat → (List (Int × Int × Bool × List Int)) → Int → (List (Int × Int × Bool × List Int)) → Option ((List (Int × Int × Bool × List Int)))
  | 0, _, _, _ => none
  | n + 1, p96, p97, p98 =>
    bif (decide (p97 < (p96.length : Int))) then
      bif ((decide ((0 : Int) ≤ p97)) && (decide (p97 < (p96.length : Int)))) then
      (f_laws_toMsg ((p96.getD p97.toNat (0, 0, false, [])).1) ((p96.getD p97.toNat (0, 0, false, [])).2.1) ((p96.getD p97.toNat (0, 0, false, [])).2.2.1) ((p96.getD p97.toNat (0, 0, false, [])).2.2.2)).bind fun y99 =>
      bif ((decide ((0 : Int) ≤ p97)) && (decide (p97 < (p98.length : Int)))) then
      (some ((p98.set p97.toNat (y99.1, y99.2.1, y99.2.2.1, y99.2.2.2)) : List (Int × Int × Bool × List Int))).bind fun z100 =>
      f_laws_toMsgS.l0 n p96 (IntKind.wrap .i64 (p97 + (1 : Int))) z100
      else none
      else none
    else
      some p98
noncomputable def f_laws_toMsgS (x0 : List (Int × Int × Bool × List Int)) : Option ((List (Int × Int × Bool × List Int))) :=
  bif (decide ((0 : Int) ≤ (x0.length : Int)) && Nat.ble (x0.length : Int).toNat 2932031007402) then
  (f_laws_toMsgS.l0 N x0 0 (List.replicate (x0.length : Int).toNat (0, 0, false, []))).bind fun r101 =>
  some r101
  else none
noncomputable def C200 : Con := ⟨[(.B, false, [(.sl R5)])], [(false, [(.sl R5)])], [(.sl R5)], [(.sl R5)], fun (p : (List (Int × Int × Bool × List Int))) => f_laws_toMsgS p⟩
noncomputable def f_laws_toMsgS.l0.c : LoopCon := ⟨1000, 6, [0, 2, 3, 4], ⟨[(0, .bor none R5 []), (2, .nil (some R5)), (3, .ref 1000 [] none), (4, .int .i64 0)], [(1000, .row R5 [])], 1001⟩, [(.sl R5), (.int .i64), (.sl R5)], [⟨.exit 0, [2, 3], ⟨[(2, .nil (some R5)), (3, .ref 1000 [] none)], [(1000, .row R5 [])], 1001⟩, [(.sl R5)]⟩], fun (p : (List (Int × Int × Bool × List Int)) × Int × (List (Int × Int × Bool × List Int))) => f_laws_toMsgS.l0 N p.1 p.2.1 p.2.2⟩
noncomputable abbrev K200 : Cons := [(54, C54)]
noncomputable abbrev L200 : List (Nat × Loops) := [(200, [(3, f_laws_toMsgS.l0.c)])]
abbrev Q200 : List (Nat × List (Int × Nat) × Nat) := []
noncomputable abbrev X200 : Nat → Ctx := ctxOf tb K200 L200 Q200
theorem f_laws_toMsgS.l0.ok : ∀ n p, (fun (p : (List (Int × Int × Bool × List Int)) × Int × (List (Int × Int × Bool × List Int))) => f_laws_toMsgS.l0 n p.1 p.2.1 p.2.2) p = iterD (roundOf fs X200 6 200 3 false f_laws_toMsgS.l0.c) n p :=
  iter_of (l := fun n => fun (p : (List (Int × Int × Bool × List Int)) × Int × (List (Int × Int × Bool × List Int))) => f_laws_toMsgS.l0 n p.1 p.2.1 p.2.2) (fun _ => rfl) (fun n p => by kernel_rfl)
theorem E200 : ∀ x, funRun fs X200 6 200 C200 x = C200.fn x := fun x => by kernel_rfl
theorem B200 : ConB Tryz.prog 200 C200 := ConB.make FS MIX TY (cons := K200) (L := L200) (ptrs := Q200) ⟨S54, trivial⟩ trivial ⟨⟨⟨N, fun p => f_laws_toMsgS.l0.ok N p⟩, trivial⟩, trivial⟩ rfl rfl E200
theorem S200 : ConS Tryz.prog 200 C200 := B200.call rfl
/-! laws.toSender: function 157 -/
noncomputable def f_laws_toSender (x0 : Int) (x1 : List (Int × Int × Bool × List Int)) : Option (Int × (List (Int × Int × Bool × List Int))) :=
  (f_laws_toMsgS x1).bind fun y102 =>
  some (x0, y102)
noncomputable def C157 : Con := ⟨[(.B, true, [(.int .i64), (.sl R5)])], [(true, [(.int .i64), (.sl R5)])], [(.int .i64), (.sl R5)], [(.int .i64), (.sl R5)], fun (p : Int × (List (Int × Int × Bool × List Int))) => f_laws_toSender p.1 p.2⟩
noncomputable abbrev K157 : Cons := [(200, C200)]
noncomputable abbrev L157 : List (Nat × Loops) := []
abbrev Q157 : List (Nat × List (Int × Nat) × Nat) := []
noncomputable abbrev X157 : Nat → Ctx := ctxOf tb K157 L157 Q157
theorem E157 : ∀ x, funRun fs X157 6 157 C157 x = C157.fn x := fun x => by kernel_rfl
theorem B157 : ConB Tryz.prog 157 C157 := ConB.make FS MIX TY (cons := K157) (L := L157) (ptrs := Q157) ⟨S200, trivial⟩ trivial trivial rfl rfl E157
theorem S157 : ConS Tryz.prog 157 C157 := B157.call rfl
/-! laws.toSenderS: function 82 -/
noncomputable def f_laws_toSenderS.l0 : Nat → (List (Int × (List (Int × Int × Bool × List Int)))) → Int → (List (Int × (List (Int × Int × Bool × List Int)))) → Option ((List (Int × (List (Int × Int × Bool × List Int)))))
  | 0, _, _, _ => none
  | n + 1, p103, p104, p105 =>
    bif (decide (p104 < (p103.length : Int))) then
      bif ((decide ((0 : Int) ≤ p104)) && (decide (p104 < (p103.length : Int)))) then
      (f_laws_toSender ((p103.getD p104.toNat (0, [])).1) ((p103.getD p104.toNat (0, [])).2)).bind fun y106 =>
      bif ((decide ((0 : Int) ≤ p104)) && (decide (p104 < (p105.length : Int)))) then
      (some ((p105.set p104.toNat (y106.1, y106.2)) : List (Int × (List (Int × Int × Bool × List Int))))).bind fun z107 =>
      f_laws_toSenderS.l0 n p103 (IntKind.wrap .i64 (p104 + (1 : Int))) z107
      else none
      else none
    else
      some p105
noncomputable def f_laws_toSenderS (x0 : List (Int × (List (Int × Int × Bool × List Int)))) : Option ((List (Int × (List (Int × Int × Bool × List Int))))) :=
  bif (decide ((0 : Int) ≤ (x0.length : Int)) && Nat.ble (x0.length : Int).toNat 4398046511104) then
  (f_laws_toSenderS.l0 N x0 0 (List.replicate (x0.length : Int).toNat (0, []))).bind fun r108 =>
  some r108
  else none
noncomputable def C82 : Con := ⟨[(.B, false, [(.sl R6)])], [(false, [(.sl R6)])], [(.sl R6)], [(.sl R6)], fun (p : (List (Int × (List (Int × Int × Bool × List Int))))) => f_laws_toSenderS p⟩
noncomputable def f_laws_toSenderS.l0.c : LoopCon := ⟨1000, 6, [0, 2, 3, 4], ⟨[(0, .bor none R6 []), (2, .nil (some R6)), (3, .ref 1000 [] none), (4, .int .i64 0)], [(1000, .row R6 [])], 1001⟩, [(.sl R6), (.int .i64), (.sl R6)], [⟨.exit 0, [2, 3], ⟨[(2, .nil (some R6)), (3, .ref 1000 [] none)], [(1000, .row R6 [])], 1001⟩, [(.sl R6)]⟩], fun (p : (List (Int × (List (Int × Int × Bool × List Int)))) × Int × (List (Int × (List (Int × Int × Bool × List Int))))) => f_laws_toSenderS.l0 N p.1 p.2.1 p.2.2⟩
noncomputable abbrev K82 : Cons := [(157, C157)]
noncomputable abbrev L82 : List (Nat × Loops) := [(82, [(3, f_laws_toSenderS.l0.c)])]
abbrev Q82 : List (Nat × List (Int × Nat) × Nat) := []
noncomputable abbrev X82 : Nat → Ctx := ctxOf tb K82 L82 Q82
theorem f_laws_toSenderS.l0.ok : ∀ n p, (fun (p : (List (Int × (List (Int × Int × Bool × List Int)))) × Int × (List (Int × (List (Int × Int × Bool × List Int))))) => f_laws_toSenderS.l0 n p.1 p.2.1 p.2.2) p = iterD (roundOf fs X82 6 82 3 false f_laws_toSenderS.l0.c) n p :=
  iter_of (l := fun n => fun (p : (List (Int × (List (Int × Int × Bool × List Int)))) × Int × (List (Int × (List (Int × Int × Bool × List Int))))) => f_laws_toSenderS.l0 n p.1 p.2.1 p.2.2) (fun _ => rfl) (fun n p => by kernel_rfl)
theorem E82 : ∀ x, funRun fs X82 6 82 C82 x = C82.fn x := fun x => by kernel_rfl
theorem B82 : ConB Tryz.prog 82 C82 := ConB.make FS MIX TY (cons := K82) (L := L82) (ptrs := Q82) ⟨S157, trivial⟩ trivial ⟨⟨⟨N, fun p => f_laws_toSenderS.l0.ok N p⟩, trivial⟩, trivial⟩ rfl rfl E82
theorem S82 : ConS Tryz.prog 82 C82 := B82.call rfl
/-! laws.toReceiver: function 158 -/
noncomputable def f_laws_toReceiver (x0 : Int) : Option (Int) :=
  some x0
noncomputable def C158 : Con := ⟨[(.B, true, [(.int .i64)])], [(true, [(.int .i64)])], [(.int .i64)], [(.int .i64)], fun (p : Int) => f_laws_toReceiver p⟩
noncomputable abbrev K158 : Cons := []
noncomputable abbrev L158 : List (Nat × Loops) := []
abbrev Q158 : List (Nat × List (Int × Nat) × Nat) := []
noncomputable abbrev X158 : Nat → Ctx := ctxOf tb K158 L158 Q158
theorem E158 : ∀ x, funRun fs X158 6 158 C158 x = C158.fn x := fun x => by kernel_rfl
theorem B158 : ConB Tryz.prog 158 C158 := ConB.make FS MIX TY (cons := K158) (L := L158) (ptrs := Q158) trivial trivial trivial rfl rfl E158
theorem S158 : ConS Tryz.prog 158 C158 := B158.call rfl
/-! laws.toReceiverS: function 83 -/
noncomputable def f_laws_toReceiverS.l0 : Nat → (List Int) → Int → (List Int) → Option (List Int)
  | 0, _, _, _ => none
  | n + 1, p109, p110, p111 =>
    bif (decide (p110 < (p109.length : Int))) then
      bif ((decide ((0 : Int) ≤ p110)) && (decide (p110 < (p109.length : Int)))) then
      (f_laws_toReceiver (p109.getD p110.toNat 0)).bind fun y112 =>
      bif ((decide ((0 : Int) ≤ p110)) && (decide (p110 < (p111.length : Int)))) then
      (some ((p111.set p110.toNat y112) : List Int)).bind fun z113 =>
      f_laws_toReceiverS.l0 n p109 (IntKind.wrap .i64 (p110 + (1 : Int))) z113
      else none
      else none
    else
      some p111
noncomputable def f_laws_toReceiverS (x0 : List Int) : Option (List Int) :=
  bif (decide ((0 : Int) ≤ (x0.length : Int)) && Nat.ble (x0.length : Int).toNat 17592186044416) then
  (f_laws_toReceiverS.l0 N x0 0 (List.replicate (x0.length : Int).toNat 0)).bind fun r114 =>
  some r114
  else none
noncomputable def C83 : Con := ⟨[(.B, false, [(.sl R0)])], [(false, [(.sl R0)])], [(.sl R0)], [(.sl R0)], fun (p : List Int) => f_laws_toReceiverS p⟩
noncomputable def f_laws_toReceiverS.l0.c : LoopCon := ⟨1000, 6, [0, 2, 3, 4], ⟨[(0, .bor none R0 []), (2, .nil (some R0)), (3, .ref 1000 [] none), (4, .int .i64 0)], [(1000, .row R0 [])], 1001⟩, [(.sl R0), (.int .i64), (.sl R0)], [⟨.exit 0, [2, 3], ⟨[(2, .nil (some R0)), (3, .ref 1000 [] none)], [(1000, .row R0 [])], 1001⟩, [(.sl R0)]⟩], fun (p : List Int × Int × List Int) => f_laws_toReceiverS.l0 N p.1 p.2.1 p.2.2⟩
noncomputable abbrev K83 : Cons := [(158, C158)]
noncomputable abbrev L83 : List (Nat × Loops) := [(83, [(3, f_laws_toReceiverS.l0.c)])]
abbrev Q83 : List (Nat × List (Int × Nat) × Nat) := []
noncomputable abbrev X83 : Nat → Ctx := ctxOf tb K83 L83 Q83
theorem f_laws_toReceiverS.l0.ok : ∀ n p, (fun (p : List Int × Int × List Int) => f_laws_toReceiverS.l0 n p.1 p.2.1 p.2.2) p = iterD (roundOf fs X83 6 83 3 false f_laws_toReceiverS.l0.c) n p :=
  iter_of (l := fun n => fun (p : List Int × Int × List Int) => f_laws_toReceiverS.l0 n p.1 p.2.1 p.2.2) (fun _ => rfl) (fun n p => by kernel_rfl)
theorem E83 : ∀ x, funRun fs X83 6 83 C83 x = C83.fn x := fun x => by kernel_rfl
theorem B83 : ConB Tryz.prog 83 C83 := ConB.make FS MIX TY (cons := K83) (L := L83) (ptrs := Q83) ⟨S158, trivial⟩ trivial ⟨⟨⟨N, fun p => f_laws_toReceiverS.l0.ok N p⟩, trivial⟩, trivial⟩ rfl rfl E83
theorem S83 : ConS Tryz.prog 83 C83 := B83.call rfl
/-! laws.toNode: function 20 -/
noncomputable def f_laws_toNode (x0 : Int) (x1 : List (Int × List Int × Bool)) (x2 : List (List Int × Int × List Bool × Bool × Int × Bool × Int × (List (Int × Bool)))) (x3 : List (Int × (List (Int × Int × Bool × List Int)))) (x4 : List Int) : Option (Int × (List (Int × List Int × Bool)) × (List (List Int × Int × List Bool × Bool × Int × Bool × Int × (List (Int × Bool)))) × (List (Int × (List (Int × Int × Bool × List Int)))) × List Int) :=
  (f_laws_toFrameS x1).bind fun y115 =>
  (f_laws_toHomeS x2).bind fun y116 =>
  (f_laws_toSenderS x3).bind fun y117 =>
  (f_laws_toReceiverS x4).bind fun y118 =>
  some (x0, y115, y116, y117, y118)
noncomputable def C20 : Con := ⟨[(.B, true, [(.int .i64), (.sl R1), (.sl R4), (.sl R6), (.sl R0)])], [(true, [(.int .i64), (.sl R1), (.sl R4), (.sl R6), (.sl R0)])], [(.int .i64), (.sl R1), (.sl R4), (.sl R6), (.sl R0)], [(.int .i64), (.sl R1), (.sl R4), (.sl R6), (.sl R0)], fun (p : Int × (List (Int × List Int × Bool)) × (List (List Int × Int × List Bool × Bool × Int × Bool × Int × (List (Int × Bool)))) × (List (Int × (List (Int × Int × Bool × List Int)))) × List Int) => f_laws_toNode p.1 p.2.1 p.2.2.1 p.2.2.2.1 p.2.2.2.2⟩
noncomputable abbrev K20 : Cons := [(80, C80), (81, C81), (82, C82), (83, C83)]
noncomputable abbrev L20 : List (Nat × Loops) := []
abbrev Q20 : List (Nat × List (Int × Nat) × Nat) := []
noncomputable abbrev X20 : Nat → Ctx := ctxOf tb K20 L20 Q20
theorem E20 : ∀ x, funRun fs X20 6 20 C20 x = C20.fn x := fun x => by kernel_rfl
theorem B20 : ConB Tryz.prog 20 C20 := ConB.make FS MIX TY (cons := K20) (L := L20) (ptrs := Q20) ⟨S80, S81, S82, S83, trivial⟩ trivial trivial rfl rfl E20
theorem S20 : ConS Tryz.prog 20 C20 := B20.call rfl
/-! laws.toNodeS: function 62 -/
noncomputable def f_laws_toNodeS.l0 : Nat → (List (Int × (List (Int × List Int × Bool)) × (List (List Int × Int × List Bool × Bool × Int × Bool × Int × (List (Int × Bool)))) × (List (Int × (List (Int × Int × Bool × List Int)))) × List Int)) → Int → (List (Int × (List (Int × List Int × Bool)) × (List (List Int × Int × List Bool × Bool × Int × Bool × Int × (List (Int × Bool)))) × (List (Int × (List (Int × Int × Bool × List Int)))) × List Int)) → Option ((List (Int × (List (Int × List Int × Bool)) × (List (List Int × Int × List Bool × Bool × Int × Bool × Int × (List (Int × Bool)))) × (List (Int × (List (Int × Int × Bool × List Int)))) × List Int)))
  | 0, _, _, _ => none
  | n + 1, p119, p120, p121 =>
    bif (decide (p120 < (p119.length : Int))) then
      bif ((decide ((0 : Int) ≤ p120)) && (decide (p120 < (p119.length : Int)))) then
      (f_laws_toNode ((p119.getD p120.toNat (0, [], [], [], [])).1) ((p119.getD p120.toNat (0, [], [], [], [])).2.1) ((p119.getD p120.toNat (0, [], [], [], [])).2.2.1) ((p119.getD p120.toNat (0, [], [], [], [])).2.2.2.1) ((p119.getD p120.toNat (0, [], [], [], [])).2.2.2.2)).bind fun y122 =>
      bif ((decide ((0 : Int) ≤ p120)) && (decide (p120 < (p121.length : Int)))) then
      (some ((p121.set p120.toNat (y122.1, y122.2.1, y122.2.2.1, y122.2.2.2.1, y122.2.2.2.2)) : List (Int × (List (Int × List Int × Bool)) × (List (List Int × Int × List Bool × Bool × Int × Bool × Int × (List (Int × Bool)))) × (List (Int × (List (Int × Int × Bool × List Int)))) × List Int))).bind fun z123 =>
      f_laws_toNodeS.l0 n p119 (IntKind.wrap .i64 (p120 + (1 : Int))) z123
      else none
      else none
    else
      some p121
noncomputable def f_laws_toNodeS (x0 : List (Int × (List (Int × List Int × Bool)) × (List (List Int × Int × List Bool × Bool × Int × Bool × Int × (List (Int × Bool)))) × (List (Int × (List (Int × Int × Bool × List Int)))) × List Int)) : Option ((List (Int × (List (Int × List Int × Bool)) × (List (List Int × Int × List Bool × Bool × Int × Bool × Int × (List (Int × Bool)))) × (List (Int × (List (Int × Int × Bool × List Int)))) × List Int))) :=
  bif (decide ((0 : Int) ≤ (x0.length : Int)) && Nat.ble (x0.length : Int).toNat 1353245080339) then
  (f_laws_toNodeS.l0 N x0 0 (List.replicate (x0.length : Int).toNat (0, [], [], [], []))).bind fun r124 =>
  some r124
  else none
noncomputable def C62 : Con := ⟨[(.B, false, [(.sl R7)])], [(false, [(.sl R7)])], [(.sl R7)], [(.sl R7)], fun (p : (List (Int × (List (Int × List Int × Bool)) × (List (List Int × Int × List Bool × Bool × Int × Bool × Int × (List (Int × Bool)))) × (List (Int × (List (Int × Int × Bool × List Int)))) × List Int))) => f_laws_toNodeS p⟩
noncomputable def f_laws_toNodeS.l0.c : LoopCon := ⟨1000, 6, [0, 2, 3, 4], ⟨[(0, .bor none R7 []), (2, .nil (some R7)), (3, .ref 1000 [] none), (4, .int .i64 0)], [(1000, .row R7 [])], 1001⟩, [(.sl R7), (.int .i64), (.sl R7)], [⟨.exit 0, [2, 3], ⟨[(2, .nil (some R7)), (3, .ref 1000 [] none)], [(1000, .row R7 [])], 1001⟩, [(.sl R7)]⟩], fun (p : (List (Int × (List (Int × List Int × Bool)) × (List (List Int × Int × List Bool × Bool × Int × Bool × Int × (List (Int × Bool)))) × (List (Int × (List (Int × Int × Bool × List Int)))) × List Int)) × Int × (List (Int × (List (Int × List Int × Bool)) × (List (List Int × Int × List Bool × Bool × Int × Bool × Int × (List (Int × Bool)))) × (List (Int × (List (Int × Int × Bool × List Int)))) × List Int))) => f_laws_toNodeS.l0 N p.1 p.2.1 p.2.2⟩
noncomputable abbrev K62 : Cons := [(20, C20)]
noncomputable abbrev L62 : List (Nat × Loops) := [(62, [(3, f_laws_toNodeS.l0.c)])]
abbrev Q62 : List (Nat × List (Int × Nat) × Nat) := []
noncomputable abbrev X62 : Nat → Ctx := ctxOf tb K62 L62 Q62
theorem f_laws_toNodeS.l0.ok : ∀ n p, (fun (p : (List (Int × (List (Int × List Int × Bool)) × (List (List Int × Int × List Bool × Bool × Int × Bool × Int × (List (Int × Bool)))) × (List (Int × (List (Int × Int × Bool × List Int)))) × List Int)) × Int × (List (Int × (List (Int × List Int × Bool)) × (List (List Int × Int × List Bool × Bool × Int × Bool × Int × (List (Int × Bool)))) × (List (Int × (List (Int × Int × Bool × List Int)))) × List Int))) => f_laws_toNodeS.l0 n p.1 p.2.1 p.2.2) p = iterD (roundOf fs X62 6 62 3 false f_laws_toNodeS.l0.c) n p :=
  iter_of (l := fun n => fun (p : (List (Int × (List (Int × List Int × Bool)) × (List (List Int × Int × List Bool × Bool × Int × Bool × Int × (List (Int × Bool)))) × (List (Int × (List (Int × Int × Bool × List Int)))) × List Int)) × Int × (List (Int × (List (Int × List Int × Bool)) × (List (List Int × Int × List Bool × Bool × Int × Bool × Int × (List (Int × Bool)))) × (List (Int × (List (Int × Int × Bool × List Int)))) × List Int))) => f_laws_toNodeS.l0 n p.1 p.2.1 p.2.2) (fun _ => rfl) (fun n p => by kernel_rfl)
theorem E62 : ∀ x, funRun fs X62 6 62 C62 x = C62.fn x := fun x => by kernel_rfl
theorem B62 : ConB Tryz.prog 62 C62 := ConB.make FS MIX TY (cons := K62) (L := L62) (ptrs := Q62) ⟨S20, trivial⟩ trivial ⟨⟨⟨N, fun p => f_laws_toNodeS.l0.ok N p⟩, trivial⟩, trivial⟩ rfl rfl E62
theorem S62 : ConS Tryz.prog 62 C62 := B62.call rfl
/-! laws.toPacket: function 139 -/
noncomputable def f_laws_toPacket (x0 : Int) (x1 : Int) (x2 : Bool) (x3 : Int) (x4 : Int) (x5 : Int) (x6 : Bool) (x7 : List Int) : Option (Int × Int × Bool × Int × Int × Int × Bool × List Int) :=
  (f_laws_toMsg x4 x5 x6 x7).bind fun y125 =>
  some (x0, x1, x2, x3, y125.1, y125.2.1, y125.2.2.1, y125.2.2.2)
noncomputable def C139 : Con := ⟨[(.B, true, [(.int .i64), (.int .i64), .bool, (.int .i64), (.int .i64), (.int .i64), .bool, (.sl R0)])], [(true, [(.int .i64), (.int .i64), .bool, (.int .i64), (.int .i64), (.int .i64), .bool, (.sl R0)])], [(.int .i64), (.int .i64), .bool, (.int .i64), (.int .i64), (.int .i64), .bool, (.sl R0)], [(.int .i64), (.int .i64), .bool, (.int .i64), (.int .i64), (.int .i64), .bool, (.sl R0)], fun (p : Int × Int × Bool × Int × Int × Int × Bool × List Int) => f_laws_toPacket p.1 p.2.1 p.2.2.1 p.2.2.2.1 p.2.2.2.2.1 p.2.2.2.2.2.1 p.2.2.2.2.2.2.1 p.2.2.2.2.2.2.2⟩
noncomputable abbrev K139 : Cons := [(54, C54)]
noncomputable abbrev L139 : List (Nat × Loops) := []
abbrev Q139 : List (Nat × List (Int × Nat) × Nat) := []
noncomputable abbrev X139 : Nat → Ctx := ctxOf tb K139 L139 Q139
theorem E139 : ∀ x, funRun fs X139 6 139 C139 x = C139.fn x := fun x => by kernel_rfl
theorem B139 : ConB Tryz.prog 139 C139 := ConB.make FS MIX TY (cons := K139) (L := L139) (ptrs := Q139) ⟨S54, trivial⟩ trivial trivial rfl rfl E139
theorem S139 : ConS Tryz.prog 139 C139 := B139.call rfl
/-! laws.toPacketS: function 63 -/
noncomputable def f_laws_toPacketS.l0 : Nat → (List (Int × Int × Bool × Int × Int × Int × Bool × List Int)) → Int → (List (Int × Int × Bool × Int × Int × Int × Bool × List Int)) → Option ((List (Int × Int × Bool × Int × Int × Int × Bool × List Int)))
  | 0, _, _, _ => none
  | n + 1, p126, p127, p128 =>
    bif (decide (p127 < (p126.length : Int))) then
      bif ((decide ((0 : Int) ≤ p127)) && (decide (p127 < (p126.length : Int)))) then
      (f_laws_toPacket ((p126.getD p127.toNat (0, 0, false, 0, 0, 0, false, [])).1) ((p126.getD p127.toNat (0, 0, false, 0, 0, 0, false, [])).2.1) ((p126.getD p127.toNat (0, 0, false, 0, 0, 0, false, [])).2.2.1) ((p126.getD p127.toNat (0, 0, false, 0, 0, 0, false, [])).2.2.2.1) ((p126.getD p127.toNat (0, 0, false, 0, 0, 0, false, [])).2.2.2.2.1) ((p126.getD p127.toNat (0, 0, false, 0, 0, 0, false, [])).2.2.2.2.2.1) ((p126.getD p127.toNat (0, 0, false, 0, 0, 0, false, [])).2.2.2.2.2.2.1) ((p126.getD p127.toNat (0, 0, false, 0, 0, 0, false, [])).2.2.2.2.2.2.2)).bind fun y129 =>
      bif ((decide ((0 : Int) ≤ p127)) && (decide (p127 < (p128.length : Int)))) then
      (some ((p128.set p127.toNat (y129.1, y129.2.1, y129.2.2.1, y129.2.2.2.1, y129.2.2.2.2.1, y129.2.2.2.2.2.1, y129.2.2.2.2.2.2.1, y129.2.2.2.2.2.2.2)) : List (Int × Int × Bool × Int × Int × Int × Bool × List Int))).bind fun z130 =>
      f_laws_toPacketS.l0 n p126 (IntKind.wrap .i64 (p127 + (1 : Int))) z130
      else none
      else none
    else
      some p128
noncomputable def f_laws_toPacketS (x0 : List (Int × Int × Bool × Int × Int × Int × Bool × List Int)) : Option ((List (Int × Int × Bool × Int × Int × Int × Bool × List Int))) :=
  bif (decide ((0 : Int) ≤ (x0.length : Int)) && Nat.ble (x0.length : Int).toNat 1759218604441) then
  (f_laws_toPacketS.l0 N x0 0 (List.replicate (x0.length : Int).toNat (0, 0, false, 0, 0, 0, false, []))).bind fun r131 =>
  some r131
  else none
noncomputable def C63 : Con := ⟨[(.B, false, [(.sl R8)])], [(false, [(.sl R8)])], [(.sl R8)], [(.sl R8)], fun (p : (List (Int × Int × Bool × Int × Int × Int × Bool × List Int))) => f_laws_toPacketS p⟩
noncomputable def f_laws_toPacketS.l0.c : LoopCon := ⟨1000, 6, [0, 2, 3, 4], ⟨[(0, .bor none R8 []), (2, .nil (some R8)), (3, .ref 1000 [] none), (4, .int .i64 0)], [(1000, .row R8 [])], 1001⟩, [(.sl R8), (.int .i64), (.sl R8)], [⟨.exit 0, [2, 3], ⟨[(2, .nil (some R8)), (3, .ref 1000 [] none)], [(1000, .row R8 [])], 1001⟩, [(.sl R8)]⟩], fun (p : (List (Int × Int × Bool × Int × Int × Int × Bool × List Int)) × Int × (List (Int × Int × Bool × Int × Int × Int × Bool × List Int))) => f_laws_toPacketS.l0 N p.1 p.2.1 p.2.2⟩
noncomputable abbrev K63 : Cons := [(139, C139)]
noncomputable abbrev L63 : List (Nat × Loops) := [(63, [(3, f_laws_toPacketS.l0.c)])]
abbrev Q63 : List (Nat × List (Int × Nat) × Nat) := []
noncomputable abbrev X63 : Nat → Ctx := ctxOf tb K63 L63 Q63
theorem f_laws_toPacketS.l0.ok : ∀ n p, (fun (p : (List (Int × Int × Bool × Int × Int × Int × Bool × List Int)) × Int × (List (Int × Int × Bool × Int × Int × Int × Bool × List Int))) => f_laws_toPacketS.l0 n p.1 p.2.1 p.2.2) p = iterD (roundOf fs X63 6 63 3 false f_laws_toPacketS.l0.c) n p :=
  iter_of (l := fun n => fun (p : (List (Int × Int × Bool × Int × Int × Int × Bool × List Int)) × Int × (List (Int × Int × Bool × Int × Int × Int × Bool × List Int))) => f_laws_toPacketS.l0 n p.1 p.2.1 p.2.2) (fun _ => rfl) (fun n p => by kernel_rfl)
theorem E63 : ∀ x, funRun fs X63 6 63 C63 x = C63.fn x := fun x => by kernel_rfl
theorem B63 : ConB Tryz.prog 63 C63 := ConB.make FS MIX TY (cons := K63) (L := L63) (ptrs := Q63) ⟨S139, trivial⟩ trivial ⟨⟨⟨N, fun p => f_laws_toPacketS.l0.ok N p⟩, trivial⟩, trivial⟩ rfl rfl E63
theorem S63 : ConS Tryz.prog 63 C63 := B63.call rfl
/-! laws.toWorld: function 13 -/
noncomputable def f_laws_toWorld (x0 : Int) (x1 : List (Int × (List (Int × List Int × Bool)) × (List (List Int × Int × List Bool × Bool × Int × Bool × Int × (List (Int × Bool)))) × (List (Int × (List (Int × Int × Bool × List Int)))) × List Int)) (x2 : List (Int × Int × Bool × Int × Int × Int × Bool × List Int)) : Option (Int × (List (Int × (List (Int × List Int × Bool)) × (List (List Int × Int × List Bool × Bool × Int × Bool × Int × (List (Int × Bool)))) × (List (Int × (List (Int × Int × Bool × List Int)))) × List Int)) × (List (Int × Int × Bool × Int × Int × Int × Bool × List Int))) :=
  (f_laws_toNodeS x1).bind fun y132 =>
  (f_laws_toPacketS x2).bind fun y133 =>
  some (x0, y132, y133)
noncomputable def C13 : Con := ⟨[(.B, true, [(.int .i64), (.sl R7), (.sl R8)])], [(true, [(.int .i64), (.sl R7), (.sl R8)])], [(.int .i64), (.sl R7), (.sl R8)], [(.int .i64), (.sl R7), (.sl R8)], fun (p : Int × (List (Int × (List (Int × List Int × Bool)) × (List (List Int × Int × List Bool × Bool × Int × Bool × Int × (List (Int × Bool)))) × (List (Int × (List (Int × Int × Bool × List Int)))) × List Int)) × (List (Int × Int × Bool × Int × Int × Int × Bool × List Int))) => f_laws_toWorld p.1 p.2.1 p.2.2⟩
noncomputable abbrev K13 : Cons := [(62, C62), (63, C63)]
noncomputable abbrev L13 : List (Nat × Loops) := []
abbrev Q13 : List (Nat × List (Int × Nat) × Nat) := []
noncomputable abbrev X13 : Nat → Ctx := ctxOf tb K13 L13 Q13
theorem E13 : ∀ x, funRun fs X13 6 13 C13 x = C13.fn x := fun x => by kernel_rfl
theorem B13 : ConB Tryz.prog 13 C13 := ConB.make FS MIX TY (cons := K13) (L := L13) (ptrs := Q13) ⟨S62, S63, trivial⟩ trivial trivial rfl rfl E13
theorem S13 : ConS Tryz.prog 13 C13 := B13.call rfl
/-! spec.l1In: function 60 -/
noncomputable def f_spec_l1In (x0 : Int) (x1 : Int) (x2 : Int) : Option (Bool) :=
  bif (decide (x1 ≤ x0)) then
    some (decide (x0 ≤ x2))
  else
    some false
noncomputable def C60 : Con := ⟨[(.B, false, [(.int .i64)]), (.B, false, [(.int .i64)]), (.B, false, [(.int .i64)])], [(false, [.bool])], [(.int .i64), (.int .i64), (.int .i64)], [.bool], fun (p : Int × Int × Int) => f_spec_l1In p.1 p.2.1 p.2.2⟩
noncomputable abbrev K60 : Cons := []
noncomputable abbrev L60 : List (Nat × Loops) := []
abbrev Q60 : List (Nat × List (Int × Nat) × Nat) := []
noncomputable abbrev X60 : Nat → Ctx := ctxOf tb K60 L60 Q60
theorem E60 : ∀ x, funRun fs X60 6 60 C60 x = C60.fn x := fun x => by kernel_rfl
theorem B60 : ConB Tryz.prog 60 C60 := ConB.make FS MIX TY (cons := K60) (L := L60) (ptrs := Q60) trivial trivial trivial rfl rfl E60
theorem S60 : ConS Tryz.prog 60 C60 := B60.call rfl
/-! spec.l1Words: function 182 -/
noncomputable def f_spec_l1Words.l0 : Nat → (List Int) → Int → Bool → Int → Option ((Bool) ⊕ (List Int × Int × Bool))
  | 0, _, _, _, _ => none
  | n + 1, p134, p135, p136, p137 =>
    bif (decide (p137 < (p134.length : Int))) then
      bif ((decide ((0 : Int) ≤ p137)) && (decide (p137 < (p134.length : Int)))) then
      (f_spec_l1In (p134.getD p137.toNat 0) 0 65535).bind fun y138 =>
      bif (!y138) then
        some (.inl false)
      else
        f_spec_l1Words.l0 n p134 p135 p136 (IntKind.wrap .i64 (p137 + (1 : Int)))
      else none
    else
      some (.inr (p134, p135, p136))
noncomputable def f_spec_l1Words (x0 : List Int) (x1 : Int) : Option (Bool) :=
  (f_spec_l1Words.l0 N x0 x1 false 0).bind fun r139 =>
  cs r139 (fun a140 =>
    some a140) (fun b141 =>
    some (decide ((b141.1.length : Int) = b141.2.1)))
noncomputable def C182 : Con := ⟨[(.B, false, [(.sl R0)]), (.B, false, [(.int .i64)])], [(false, [.bool])], [(.sl R0), (.int .i64)], [.bool], fun (p : List Int × Int) => f_spec_l1Words p.1 p.2⟩
noncomputable def f_spec_l1Words.l0.c : LoopCon := ⟨1000, 6, [0, 1, 4, 5], ⟨[(0, .bor none R0 []), (1, .int .i64 0), (4, .bool false), (5, .int .i64 0)], [], 1000⟩, [(.sl R0), (.int .i64), .bool, (.int .i64)], [⟨.ret, [4], ⟨[(4, .bool false)], [], 1000⟩, [.bool]⟩, ⟨.exit 0, [0, 1, 4], ⟨[(0, .bor none R0 []), (1, .int .i64 0), (4, .bool false)], [], 1000⟩, [(.sl R0), (.int .i64), .bool]⟩], fun (p : List Int × Int × Bool × Int) => f_spec_l1Words.l0 N p.1 p.2.1 p.2.2.1 p.2.2.2⟩
noncomputable abbrev K182 : Cons := [(60, C60)]
noncomputable abbrev L182 : List (Nat × Loops) := [(182, [(2, f_spec_l1Words.l0.c)])]
abbrev Q182 : List (Nat × List (Int × Nat) × Nat) := []
noncomputable abbrev X182 : Nat → Ctx := ctxOf tb K182 L182 Q182
theorem f_spec_l1Words.l0.ok : ∀ n p, (fun (p : List Int × Int × Bool × Int) => f_spec_l1Words.l0 n p.1 p.2.1 p.2.2.1 p.2.2.2) p = iterD (roundOf fs X182 6 182 2 false f_spec_l1Words.l0.c) n p :=
  iter_of (l := fun n => fun (p : List Int × Int × Bool × Int) => f_spec_l1Words.l0 n p.1 p.2.1 p.2.2.1 p.2.2.2) (fun _ => rfl) (fun n p => by kernel_rfl)
theorem E182 : ∀ x, funRun fs X182 6 182 C182 x = C182.fn x := fun x => by kernel_rfl
theorem B182 : ConB Tryz.prog 182 C182 := ConB.make FS MIX TY (cons := K182) (L := L182) (ptrs := Q182) ⟨S60, trivial⟩ trivial ⟨⟨⟨N, fun p => f_spec_l1Words.l0.ok N p⟩, trivial⟩, trivial⟩ rfl rfl E182
theorem S182 : ConS Tryz.prog 182 C182 := B182.call rfl
/-! spec.FrameOk: function 130 -/
noncomputable def f_spec_FrameOk (x0 : Int) (x1 : List Int) (x2 : Bool) : Option (Bool) :=
  bif (decide (x0 = (0 : Int))) then
    some (decide ((x1.length : Int) = (0 : Int)))
  else
    (f_spec_l1In x0 0 2).bind fun y142 =>
    bif y142 then
      (f_spec_l1Words x1 4).bind fun y143 =>
      some y143
    else
      some false
noncomputable def C130 : Con := ⟨[(.B, true, [(.int .i64), (.sl R0), .bool])], [(false, [.bool])], [(.int .i64), (.sl R0), .bool], [.bool], fun (p : Int × List Int × Bool) => f_spec_FrameOk p.1 p.2.1 p.2.2⟩
noncomputable abbrev K130 : Cons := [(60, C60), (182, C182)]
noncomputable abbrev L130 : List (Nat × Loops) := []
abbrev Q130 : List (Nat × List (Int × Nat) × Nat) := []
noncomputable abbrev X130 : Nat → Ctx := ctxOf tb K130 L130 Q130
theorem E130 : ∀ x, funRun fs X130 6 130 C130 x = C130.fn x := fun x => by kernel_rfl
theorem B130 : ConB Tryz.prog 130 C130 := ConB.make FS MIX TY (cons := K130) (L := L130) (ptrs := Q130) ⟨S60, S182, trivial⟩ trivial trivial rfl rfl E130
theorem S130 : ConS Tryz.prog 130 C130 := B130.call rfl
/-! spec.HomeOk: function 131 -/
noncomputable def f_spec_HomeOk.l0 : Nat → Int → Bool → Int → (List Int) → Int → (List Bool) → Bool → Int → Bool → Int → (List (Int × Bool)) → Option ((Bool) ⊕ (Bool))
  | 0, _, _, _, _, _, _, _, _, _, _, _ => none
  | n + 1, p149, p150, p151, p152, p153, p154, p155, p156, p157, p158, p159 =>
    bif (decide (p151 < (p159.length : Int))) then
      bif ((decide ((0 : Int) ≤ p151)) && (decide (p151 < (p159.length : Int)))) then
      (f_spec_l1In ((p159.getD p151.toNat (0, false)).1) 0 (IntKind.wrap .i64 (p149 - (1 : Int)))).bind fun y160 =>
      bif (!y160) then
        some (.inl false)
      else
        f_spec_HomeOk.l0 n p149 p150 (IntKind.wrap .i64 (p151 + (1 : Int))) p152 p153 p154 p155 p156 p157 p158 p159
      else none
    else
      some (.inr p150)
noncomputable def f_spec_HomeOk (x0 : List Int) (x1 : Int) (x2 : List Bool) (x3 : Bool) (x4 : Int) (x5 : Bool) (x6 : Int) (x7 : List (Int × Bool)) (x8 : Int) : Option (Bool) :=
  (f_spec_l1In x8 1 4).bind fun y144 =>
  bif (!y144) then
    some false
  else
    (f_spec_l1Words x0 4).bind fun y145 =>
    bif (!y145) then
      some false
    else
      (f_spec_l1In x1 (-1) (IntKind.wrap .i64 (x8 - (1 : Int)))).bind fun y146 =>
      bif (!y146) then
        some false
      else
        bif (!(decide ((x2.length : Int) = x8))) then
          some false
        else
          (f_spec_l1In x4 0 (IntKind.wrap .i64 (x8 - (1 : Int)))).bind fun y147 =>
          bif (!y147) then
            some false
          else
            (f_spec_l1In x6 0 x8).bind fun y148 =>
            bif (!y148) then
              some false
            else
              bif (decide ((12 : Int) < (x7.length : Int))) then
                some false
              else
                (f_spec_HomeOk.l0 N x8 false 0 x0 x1 x2 x3 x4 x5 x6 x7).bind fun r161 =>
                cs r161 (fun a162 =>
                  some a162) (fun b163 =>
                  some true)
noncomputable def C131 : Con := ⟨[(.B, true, [(.sl R0), (.int .i64), (.sl R2), .bool, (.int .i64), .bool, (.int .i64), (.sl R3)]), (.B, false, [(.int .i64)])], [(false, [.bool])], [(.sl R0), (.int .i64), (.sl R2), .bool, (.int .i64), .bool, (.int .i64), (.sl R3), (.int .i64)], [.bool], fun (p : List Int × Int × List Bool × Bool × Int × Bool × Int × (List (Int × Bool)) × Int) => f_spec_HomeOk p.1 p.2.1 p.2.2.1 p.2.2.2.1 p.2.2.2.2.1 p.2.2.2.2.2.1 p.2.2.2.2.2.2.1 p.2.2.2.2.2.2.2.1 p.2.2.2.2.2.2.2.2⟩
noncomputable def f_spec_HomeOk.l0.c : LoopCon := ⟨1000, 6, [1, 2, 4, 5], ⟨[(1, .int .i64 0), (2, .ptr 1000 0), (4, .bool false), (5, .int .i64 0)], [(1000, .box [.bor none R0 [], .int .i64 0, .bor none R2 [], .bool false, .int .i64 0, .bool false, .int .i64 0, .bor none R3 []])], 1001⟩, [(.int .i64), .bool, (.int .i64), (.sl R0), (.int .i64), (.sl R2), .bool, (.int .i64), .bool, (.int .i64), (.sl R3)], [⟨.ret, [4], ⟨[(4, .bool false)], [], 1000⟩, [.bool]⟩, ⟨.exit 0, [4], ⟨[(4, .bool false)], [], 1000⟩, [.bool]⟩], fun (p : Int × Bool × Int × List Int × Int × List Bool × Bool × Int × Bool × Int × (List (Int × Bool))) => f_spec_HomeOk.l0 N p.1 p.2.1 p.2.2.1 p.2.2.2.1 p.2.2.2.2.1 p.2.2.2.2.2.1 p.2.2.2.2.2.2.1 p.2.2.2.2.2.2.2.1 p.2.2.2.2.2.2.2.2.1 p.2.2.2.2.2.2.2.2.2.1 p.2.2.2.2.2.2.2.2.2.2⟩
noncomputable abbrev K131 : Cons := [(60, C60), (182, C182)]
noncomputable abbrev L131 : List (Nat × Loops) := [(131, [(4, f_spec_HomeOk.l0.c)])]
abbrev Q131 : List (Nat × List (Int × Nat) × Nat) := []
noncomputable abbrev X131 : Nat → Ctx := ctxOf tb K131 L131 Q131
theorem f_spec_HomeOk.l0.ok : ∀ n p, (fun (p : Int × Bool × Int × List Int × Int × List Bool × Bool × Int × Bool × Int × (List (Int × Bool))) => f_spec_HomeOk.l0 n p.1 p.2.1 p.2.2.1 p.2.2.2.1 p.2.2.2.2.1 p.2.2.2.2.2.1 p.2.2.2.2.2.2.1 p.2.2.2.2.2.2.2.1 p.2.2.2.2.2.2.2.2.1 p.2.2.2.2.2.2.2.2.2.1 p.2.2.2.2.2.2.2.2.2.2) p = iterD (roundOf fs X131 6 131 4 false f_spec_HomeOk.l0.c) n p :=
  iter_of (l := fun n => fun (p : Int × Bool × Int × List Int × Int × List Bool × Bool × Int × Bool × Int × (List (Int × Bool))) => f_spec_HomeOk.l0 n p.1 p.2.1 p.2.2.1 p.2.2.2.1 p.2.2.2.2.1 p.2.2.2.2.2.1 p.2.2.2.2.2.2.1 p.2.2.2.2.2.2.2.1 p.2.2.2.2.2.2.2.2.1 p.2.2.2.2.2.2.2.2.2.1 p.2.2.2.2.2.2.2.2.2.2) (fun _ => rfl) (fun n p => by kernel_rfl)
theorem E131 : ∀ x, funRun fs X131 6 131 C131 x = C131.fn x := fun x => by kernel_rfl
theorem B131 : ConB Tryz.prog 131 C131 := ConB.make FS MIX TY (cons := K131) (L := L131) (ptrs := Q131) ⟨S60, S182, trivial⟩ trivial ⟨⟨⟨N, fun p => f_spec_HomeOk.l0.ok N p⟩, trivial⟩, trivial⟩ rfl rfl E131
theorem S131 : ConS Tryz.prog 131 C131 := B131.call rfl
/-! spec.MsgOk: function 113 -/
noncomputable def f_spec_MsgOk (x0 : Int) (x1 : Int) (x2 : Bool) (x3 : List Int) : Option (Bool) :=
  bif (decide (x0 = (3 : Int))) then
    bif (decide (x0 = (3 : Int))) then
      (f_spec_l1In x0 1 7).bind fun y164 =>
      bif y164 then
        (f_spec_l1In x1 0 5).bind fun y165 =>
        bif y165 then
          (f_spec_l1Words x3 4).bind fun y166 =>
          some y166
        else
          some false
      else
        some false
    else
      (f_spec_l1In x0 1 7).bind fun y167 =>
      bif y167 then
        (f_spec_l1In x1 0 5).bind fun y168 =>
        bif y168 then
          bif (decide (x0 = (6 : Int))) then
            (f_spec_l1Words x3 4).bind fun y169 =>
            some y169
          else
            bif (!x2) then
              (f_spec_l1Words x3 4).bind fun y170 =>
              some y170
            else
              some false
        else
          some false
      else
        some false
  else
    bif (decide (x0 = (7 : Int))) then
      bif (decide (x0 = (3 : Int))) then
        (f_spec_l1In x0 1 7).bind fun y171 =>
        bif y171 then
          (f_spec_l1In x1 0 5).bind fun y172 =>
          bif y172 then
            (f_spec_l1Words x3 4).bind fun y173 =>
            some y173
          else
            some false
        else
          some false
      else
        (f_spec_l1In x0 1 7).bind fun y174 =>
        bif y174 then
          (f_spec_l1In x1 0 5).bind fun y175 =>
          bif y175 then
            bif (decide (x0 = (6 : Int))) then
              (f_spec_l1Words x3 4).bind fun y176 =>
              some y176
            else
              bif (!x2) then
                (f_spec_l1Words x3 4).bind fun y177 =>
                some y177
              else
                some false
          else
            some false
        else
          some false
    else
      bif (decide (x0 = (3 : Int))) then
        (f_spec_l1In x0 1 7).bind fun y178 =>
        bif y178 then
          (f_spec_l1In x1 0 5).bind fun y179 =>
          bif y179 then
            (f_spec_l1Words x3 0).bind fun y180 =>
            some y180
          else
            some false
        else
          some false
      else
        (f_spec_l1In x0 1 7).bind fun y181 =>
        bif y181 then
          (f_spec_l1In x1 0 5).bind fun y182 =>
          bif y182 then
            bif (decide (x0 = (6 : Int))) then
              (f_spec_l1Words x3 0).bind fun y183 =>
              some y183
            else
              bif (!x2) then
                (f_spec_l1Words x3 0).bind fun y184 =>
                some y184
              else
                some false
          else
            some false
        else
          some false
noncomputable def C113 : Con := ⟨[(.B, true, [(.int .i64), (.int .i64), .bool, (.sl R0)])], [(false, [.bool])], [(.int .i64), (.int .i64), .bool, (.sl R0)], [.bool], fun (p : Int × Int × Bool × List Int) => f_spec_MsgOk p.1 p.2.1 p.2.2.1 p.2.2.2⟩
noncomputable abbrev K113 : Cons := [(60, C60), (182, C182)]
noncomputable abbrev L113 : List (Nat × Loops) := []
abbrev Q113 : List (Nat × List (Int × Nat) × Nat) := []
noncomputable abbrev X113 : Nat → Ctx := ctxOf tb K113 L113 Q113
theorem E113 : ∀ x, funRun fs X113 6 113 C113 x = C113.fn x := fun x => by kernel_rfl
theorem B113 : ConB Tryz.prog 113 C113 := ConB.make FS MIX TY (cons := K113) (L := L113) (ptrs := Q113) ⟨S60, S182, trivial⟩ trivial trivial rfl rfl E113
theorem S113 : ConS Tryz.prog 113 C113 := B113.call rfl
/-! spec.SenderOk: function 132 -/
noncomputable def f_spec_SenderOk.l0 : Nat → Bool → Int → Int → (List (Int × Int × Bool × List Int)) → Option ((Bool) ⊕ (Bool × Int × (List (Int × Int × Bool × List Int))))
  | 0, _, _, _, _ => none
  | n + 1, p185, p186, p187, p188 =>
    bif (decide (p186 < (p188.length : Int))) then
      bif ((decide ((0 : Int) ≤ p186)) && (decide (p186 < (p188.length : Int)))) then
      (f_spec_MsgOk ((p188.getD p186.toNat (0, 0, false, [])).1) ((p188.getD p186.toNat (0, 0, false, [])).2.1) ((p188.getD p186.toNat (0, 0, false, [])).2.2.1) ((p188.getD p186.toNat (0, 0, false, [])).2.2.2)).bind fun y189 =>
      bif (!y189) then
        some (.inl false)
      else
        f_spec_SenderOk.l0 n p185 (IntKind.wrap .i64 (p186 + (1 : Int))) p187 p188
      else none
    else
      some (.inr (p185, p187, p188))
noncomputable def f_spec_SenderOk (x0 : Int) (x1 : List (Int × Int × Bool × List Int)) : Option (Bool) :=
  (f_spec_SenderOk.l0 N false 0 x0 x1).bind fun r190 =>
  cs r190 (fun a191 =>
    some a191) (fun b192 =>
    (f_spec_l1In b192.2.1 0 100000).bind fun y193 =>
    bif y193 then
      bif (decide ((b192.2.2.length : Int) ≤ (30 : Int))) then
        some (decide ((IntKind.wrap .i64 (b192.2.1 + (b192.2.2.length : Int))) ≤ (100000 : Int)))
      else
        some false
    else
      some false)
noncomputable def C132 : Con := ⟨[(.B, true, [(.int .i64), (.sl R5)])], [(false, [.bool])], [(.int .i64), (.sl R5)], [.bool], fun (p : Int × (List (Int × Int × Bool × List Int))) => f_spec_SenderOk p.1 p.2⟩
noncomputable def f_spec_SenderOk.l0.c : LoopCon := ⟨1000, 6, [1, 2, 3], ⟨[(1, .ptr 1000 0), (2, .bool false), (3, .int .i64 0)], [(1000, .box [.int .i64 0, .bor none R5 []])], 1001⟩, [.bool, (.int .i64), (.int .i64), (.sl R5)], [⟨.ret, [2], ⟨[(2, .bool false)], [], 1000⟩, [.bool]⟩, ⟨.exit 0, [1, 2], ⟨[(1, .ptr 1000 0), (2, .bool false)], [(1000, .box [.int .i64 0, .bor none R5 []])], 1001⟩, [.bool, (.int .i64), (.sl R5)]⟩], fun (p : Bool × Int × Int × (List (Int × Int × Bool × List Int))) => f_spec_SenderOk.l0 N p.1 p.2.1 p.2.2.1 p.2.2.2⟩
noncomputable abbrev K132 : Cons := [(60, C60), (113, C113)]
noncomputable abbrev L132 : List (Nat × Loops) := [(132, [(2, f_spec_SenderOk.l0.c)])]
abbrev Q132 : List (Nat × List (Int × Nat) × Nat) := []
noncomputable abbrev X132 : Nat → Ctx := ctxOf tb K132 L132 Q132
theorem f_spec_SenderOk.l0.ok : ∀ n p, (fun (p : Bool × Int × Int × (List (Int × Int × Bool × List Int))) => f_spec_SenderOk.l0 n p.1 p.2.1 p.2.2.1 p.2.2.2) p = iterD (roundOf fs X132 6 132 2 false f_spec_SenderOk.l0.c) n p :=
  iter_of (l := fun n => fun (p : Bool × Int × Int × (List (Int × Int × Bool × List Int))) => f_spec_SenderOk.l0 n p.1 p.2.1 p.2.2.1 p.2.2.2) (fun _ => rfl) (fun n p => by kernel_rfl)
theorem E132 : ∀ x, funRun fs X132 6 132 C132 x = C132.fn x := fun x => by kernel_rfl
theorem B132 : ConB Tryz.prog 132 C132 := ConB.make FS MIX TY (cons := K132) (L := L132) (ptrs := Q132) ⟨S60, S113, trivial⟩ trivial ⟨⟨⟨N, fun p => f_spec_SenderOk.l0.ok N p⟩, trivial⟩, trivial⟩ rfl rfl E132
theorem S132 : ConS Tryz.prog 132 C132 := B132.call rfl
/-! spec.NodeOk: function 48 -/
noncomputable def f_spec_NodeOk.l1 : Nat → Int → Bool → Int → Int → (List (Int × List Int × Bool)) → (List (List Int × Int × List Bool × Bool × Int × Bool × Int × (List (Int × Bool)))) → (List (Int × (List (Int × Int × Bool × List Int)))) → (List Int) → Option ((Bool) ⊕ (Bool))
  | 0, _, _, _, _, _, _, _, _ => none
  | n + 1, p209, p210, p211, p212, p213, p214, p215, p216 =>
    bif (decide (p211 < p209)) then
      bif ((decide ((0 : Int) ≤ p211)) && (decide (p211 < (p215.length : Int)))) then
      (f_spec_SenderOk ((p215.getD p211.toNat (0, [])).1) ((p215.getD p211.toNat (0, [])).2)).bind fun y217 =>
      bif (!y217) then
        some (.inl false)
      else
        bif ((decide ((0 : Int) ≤ p211)) && (decide (p211 < (p216.length : Int)))) then
        (f_spec_l1In (p216.getD p211.toNat 0) 0 100000).bind fun y218 =>
        bif (!y218) then
          some (.inl false)
        else
          f_spec_NodeOk.l1 n p209 p210 (IntKind.wrap .i64 (p211 + (1 : Int))) p212 p213 p214 p215 p216
        else none
      else none
    else
      some (.inr p210)
noncomputable def f_spec_NodeOk.l0 : Nat → Int → Bool → Int → Int → (List (Int × List Int × Bool)) → (List (List Int × Int × List Bool × Bool × Int × Bool × Int × (List (Int × Bool)))) → (List (Int × (List (Int × Int × Bool × List Int)))) → (List Int) → Option ((Bool) ⊕ (Int × Bool × Int × (List (Int × List Int × Bool)) × (List (List Int × Int × List Bool × Bool × Int × Bool × Int × (List (Int × Bool)))) × (List (Int × (List (Int × Int × Bool × List Int)))) × List Int))
  | 0, _, _, _, _, _, _, _, _ => none
  | n + 1, p196, p197, p198, p199, p200, p201, p202, p203 =>
    bif (decide (p198 < (6 : Int))) then
      bif ((decide ((0 : Int) ≤ p198)) && (decide (p198 < (p200.length : Int)))) then
      (f_spec_FrameOk ((p200.getD p198.toNat (0, [], false)).1) ((p200.getD p198.toNat (0, [], false)).2.1) ((p200.getD p198.toNat (0, [], false)).2.2)).bind fun y204 =>
      bif (!y204) then
        some (.inl false)
      else
        bif ((decide ((0 : Int) ≤ p198)) && (decide (p198 < (p201.length : Int)))) then
        (f_spec_HomeOk ((p201.getD p198.toNat ([], 0, [], false, 0, false, 0, [])).1) ((p201.getD p198.toNat ([], 0, [], false, 0, false, 0, [])).2.1) ((p201.getD p198.toNat ([], 0, [], false, 0, false, 0, [])).2.2.1) ((p201.getD p198.toNat ([], 0, [], false, 0, false, 0, [])).2.2.2.1) ((p201.getD p198.toNat ([], 0, [], false, 0, false, 0, [])).2.2.2.2.1) ((p201.getD p198.toNat ([], 0, [], false, 0, false, 0, [])).2.2.2.2.2.1) ((p201.getD p198.toNat ([], 0, [], false, 0, false, 0, [])).2.2.2.2.2.2.1) ((p201.getD p198.toNat ([], 0, [], false, 0, false, 0, [])).2.2.2.2.2.2.2) p196).bind fun y205 =>
        bif (!y205) then
          some (.inl false)
        else
          f_spec_NodeOk.l0 n p196 p197 (IntKind.wrap .i64 (p198 + (1 : Int))) p199 p200 p201 p202 p203
        else none
      else none
    else
      some (.inr (p196, p197, p199, p200, p201, p202, p203))
noncomputable def f_spec_NodeOk (x0 : Int) (x1 : List (Int × List Int × Bool)) (x2 : List (List Int × Int × List Bool × Bool × Int × Bool × Int × (List (Int × Bool)))) (x3 : List (Int × (List (Int × Int × Bool × List Int)))) (x4 : List Int) (x5 : Int) : Option (Bool) :=
  (f_spec_l1In x5 1 4).bind fun y194 =>
  bif (!y194) then
    some false
  else
    (f_spec_l1In x0 0 (IntKind.wrap .i64 (x5 - (1 : Int)))).bind fun y195 =>
    bif (!y195) then
      some false
    else
      bif (!(decide ((x1.length : Int) = (6 : Int)))) then
        some false
      else
        bif (!(decide ((x2.length : Int) = (6 : Int)))) then
          some false
        else
          bif (!(decide ((x3.length : Int) = x5))) then
            some false
          else
            bif (!(decide ((x4.length : Int) = x5))) then
              some false
            else
              (f_spec_NodeOk.l0 N x5 false 0 x0 x1 x2 x3 x4).bind fun r206 =>
              cs r206 (fun a207 =>
                some a207) (fun b208 =>
                (f_spec_NodeOk.l1 N b208.1 b208.2.1 0 b208.2.2.1 b208.2.2.2.1 b208.2.2.2.2.1 b208.2.2.2.2.2.1 b208.2.2.2.2.2.2).bind fun r219 =>
                cs r219 (fun a220 =>
                  some a220) (fun b221 =>
                  some true))
noncomputable def C48 : Con := ⟨[(.B, true, [(.int .i64), (.sl R1), (.sl R4), (.sl R6), (.sl R0)]), (.B, false, [(.int .i64)])], [(false, [.bool])], [(.int .i64), (.sl R1), (.sl R4), (.sl R6), (.sl R0), (.int .i64)], [.bool], fun (p : Int × (List (Int × List Int × Bool)) × (List (List Int × Int × List Bool × Bool × Int × Bool × Int × (List (Int × Bool)))) × (List (Int × (List (Int × Int × Bool × List Int)))) × List Int × Int) => f_spec_NodeOk p.1 p.2.1 p.2.2.1 p.2.2.2.1 p.2.2.2.2.1 p.2.2.2.2.2⟩
noncomputable def f_spec_NodeOk.l0.c : LoopCon := ⟨1000, 6, [1, 2, 4, 5], ⟨[(1, .int .i64 0), (2, .ptr 1000 0), (4, .bool false), (5, .int .i64 0)], [(1000, .box [.int .i64 0, .bor none R1 [], .bor none R4 [], .bor none R6 [], .bor none R0 []])], 1001⟩, [(.int .i64), .bool, (.int .i64), (.int .i64), (.sl R1), (.sl R4), (.sl R6), (.sl R0)], [⟨.ret, [4], ⟨[(4, .bool false)], [], 1000⟩, [.bool]⟩, ⟨.exit 0, [1, 2, 4], ⟨[(1, .int .i64 0), (2, .ptr 1000 0), (4, .bool false)], [(1000, .box [.int .i64 0, .bor none R1 [], .bor none R4 [], .bor none R6 [], .bor none R0 []])], 1001⟩, [(.int .i64), .bool, (.int .i64), (.sl R1), (.sl R4), (.sl R6), (.sl R0)]⟩], fun (p : Int × Bool × Int × Int × (List (Int × List Int × Bool)) × (List (List Int × Int × List Bool × Bool × Int × Bool × Int × (List (Int × Bool)))) × (List (Int × (List (Int × Int × Bool × List Int)))) × List Int) => f_spec_NodeOk.l0 N p.1 p.2.1 p.2.2.1 p.2.2.2.1 p.2.2.2.2.1 p.2.2.2.2.2.1 p.2.2.2.2.2.2.1 p.2.2.2.2.2.2.2⟩
noncomputable def f_spec_NodeOk.l1.c : LoopCon := ⟨1000, 6, [1, 2, 4, 6], ⟨[(1, .int .i64 0), (2, .ptr 1000 0), (4, .bool false), (6, .int .i64 0)], [(1000, .box [.int .i64 0, .bor none R1 [], .bor none R4 [], .bor none R6 [], .bor none R0 []])], 1001⟩, [(.int .i64), .bool, (.int .i64), (.int .i64), (.sl R1), (.sl R4), (.sl R6), (.sl R0)], [⟨.ret, [4], ⟨[(4, .bool false)], [], 1000⟩, [.bool]⟩, ⟨.exit 2, [4], ⟨[(4, .bool false)], [], 1000⟩, [.bool]⟩], fun (p : Int × Bool × Int × Int × (List (Int × List Int × Bool)) × (List (List Int × Int × List Bool × Bool × Int × Bool × Int × (List (Int × Bool)))) × (List (Int × (List (Int × Int × Bool × List Int)))) × List Int) => f_spec_NodeOk.l1 N p.1 p.2.1 p.2.2.1 p.2.2.2.1 p.2.2.2.2.1 p.2.2.2.2.2.1 p.2.2.2.2.2.2.1 p.2.2.2.2.2.2.2⟩
noncomputable abbrev K48 : Cons := [(60, C60), (130, C130), (131, C131), (132, C132)]
noncomputable abbrev L48 : List (Nat × Loops) := [(48, [(4, f_spec_NodeOk.l0.c), (9, f_spec_NodeOk.l1.c)])]
abbrev Q48 : List (Nat × List (Int × Nat) × Nat) := []
noncomputable abbrev X48 : Nat → Ctx := ctxOf tb K48 L48 Q48
theorem f_spec_NodeOk.l0.ok : ∀ n p, (fun (p : Int × Bool × Int × Int × (List (Int × List Int × Bool)) × (List (List Int × Int × List Bool × Bool × Int × Bool × Int × (List (Int × Bool)))) × (List (Int × (List (Int × Int × Bool × List Int)))) × List Int) => f_spec_NodeOk.l0 n p.1 p.2.1 p.2.2.1 p.2.2.2.1 p.2.2.2.2.1 p.2.2.2.2.2.1 p.2.2.2.2.2.2.1 p.2.2.2.2.2.2.2) p = iterD (roundOf fs X48 6 48 4 false f_spec_NodeOk.l0.c) n p :=
  iter_of (l := fun n => fun (p : Int × Bool × Int × Int × (List (Int × List Int × Bool)) × (List (List Int × Int × List Bool × Bool × Int × Bool × Int × (List (Int × Bool)))) × (List (Int × (List (Int × Int × Bool × List Int)))) × List Int) => f_spec_NodeOk.l0 n p.1 p.2.1 p.2.2.1 p.2.2.2.1 p.2.2.2.2.1 p.2.2.2.2.2.1 p.2.2.2.2.2.2.1 p.2.2.2.2.2.2.2) (fun _ => rfl) (fun n p => by kernel_rfl)
theorem f_spec_NodeOk.l1.ok : ∀ n p, (fun (p : Int × Bool × Int × Int × (List (Int × List Int × Bool)) × (List (List Int × Int × List Bool × Bool × Int × Bool × Int × (List (Int × Bool)))) × (List (Int × (List (Int × Int × Bool × List Int)))) × List Int) => f_spec_NodeOk.l1 n p.1 p.2.1 p.2.2.1 p.2.2.2.1 p.2.2.2.2.1 p.2.2.2.2.2.1 p.2.2.2.2.2.2.1 p.2.2.2.2.2.2.2) p = iterD (roundOf fs X48 6 48 9 false f_spec_NodeOk.l1.c) n p :=
  iter_of (l := fun n => fun (p : Int × Bool × Int × Int × (List (Int × List Int × Bool)) × (List (List Int × Int × List Bool × Bool × Int × Bool × Int × (List (Int × Bool)))) × (List (Int × (List (Int × Int × Bool × List Int)))) × List Int) => f_spec_NodeOk.l1 n p.1 p.2.1 p.2.2.1 p.2.2.2.1 p.2.2.2.2.1 p.2.2.2.2.2.1 p.2.2.2.2.2.2.1 p.2.2.2.2.2.2.2) (fun _ => rfl) (fun n p => by kernel_rfl)
theorem E48 : ∀ x, funRun fs X48 6 48 C48 x = C48.fn x := fun x => by kernel_rfl
theorem B48 : ConB Tryz.prog 48 C48 := ConB.make FS MIX TY (cons := K48) (L := L48) (ptrs := Q48) ⟨S60, S130, S131, S132, trivial⟩ trivial ⟨⟨⟨N, fun p => f_spec_NodeOk.l0.ok N p⟩, ⟨N, fun p => f_spec_NodeOk.l1.ok N p⟩, trivial⟩, trivial⟩ rfl rfl E48
theorem S48 : ConS Tryz.prog 48 C48 := B48.call rfl
/-! spec.PacketOk: function 138 -/
noncomputable def f_spec_PacketOk (x0 : Int) (x1 : Int) (x2 : Bool) (x3 : Int) (x4 : Int) (x5 : Int) (x6 : Bool) (x7 : List Int) (x8 : Int) : Option (Bool) :=
  (f_spec_l1In x8 1 4).bind fun y222 =>
  bif (!y222) then
    some false
  else
    (f_spec_l1In x0 0 (IntKind.wrap .i64 (x8 - (1 : Int)))).bind fun y223 =>
    bif (!y223) then
      some false
    else
      (f_spec_l1In x1 0 (IntKind.wrap .i64 (x8 - (1 : Int)))).bind fun y224 =>
      bif (!y224) then
        some false
      else
        (f_spec_l1In x3 0 100000).bind fun y225 =>
        bif (!y225) then
          some false
        else
          bif x2 then
            bif (decide (x4 = (0 : Int))) then
              bif (decide (x5 = (0 : Int))) then
                bif (!x6) then
                  some (decide ((x7.length : Int) = (0 : Int)))
                else
                  some false
              else
                some false
            else
              some false
          else
            (f_spec_MsgOk x4 x5 x6 x7).bind fun y226 =>
            some y226
noncomputable def C138 : Con := ⟨[(.B, true, [(.int .i64), (.int .i64), .bool, (.int .i64), (.int .i64), (.int .i64), .bool, (.sl R0)]), (.B, false, [(.int .i64)])], [(false, [.bool])], [(.int .i64), (.int .i64), .bool, (.int .i64), (.int .i64), (.int .i64), .bool, (.sl R0), (.int .i64)], [.bool], fun (p : Int × Int × Bool × Int × Int × Int × Bool × List Int × Int) => f_spec_PacketOk p.1 p.2.1 p.2.2.1 p.2.2.2.1 p.2.2.2.2.1 p.2.2.2.2.2.1 p.2.2.2.2.2.2.1 p.2.2.2.2.2.2.2.1 p.2.2.2.2.2.2.2.2⟩
noncomputable abbrev K138 : Cons := [(60, C60), (113, C113)]
noncomputable abbrev L138 : List (Nat × Loops) := []
abbrev Q138 : List (Nat × List (Int × Nat) × Nat) := []
noncomputable abbrev X138 : Nat → Ctx := ctxOf tb K138 L138 Q138
theorem E138 : ∀ x, funRun fs X138 6 138 C138 x = C138.fn x := fun x => by kernel_rfl
theorem B138 : ConB Tryz.prog 138 C138 := ConB.make FS MIX TY (cons := K138) (L := L138) (ptrs := Q138) ⟨S60, S113, trivial⟩ trivial trivial rfl rfl E138
theorem S138 : ConS Tryz.prog 138 C138 := B138.call rfl
/-! spec.WorldOk: function 59 -/
noncomputable def f_spec_WorldOk.l1 : Nat → Bool → Int → Int → (List (Int × (List (Int × List Int × Bool)) × (List (List Int × Int × List Bool × Bool × Int × Bool × Int × (List (Int × Bool)))) × (List (Int × (List (Int × Int × Bool × List Int)))) × List Int)) → (List (Int × Int × Bool × Int × Int × Int × Bool × List Int)) → Option ((Bool) ⊕ (Bool))
  | 0, _, _, _, _, _ => none
  | n + 1, p237, p238, p239, p240, p241 =>
    bif (decide (p238 < (p241.length : Int))) then
      bif ((decide ((0 : Int) ≤ p238)) && (decide (p238 < (p241.length : Int)))) then
      (f_spec_PacketOk ((p241.getD p238.toNat (0, 0, false, 0, 0, 0, false, [])).1) ((p241.getD p238.toNat (0, 0, false, 0, 0, 0, false, [])).2.1) ((p241.getD p238.toNat (0, 0, false, 0, 0, 0, false, [])).2.2.1) ((p241.getD p238.toNat (0, 0, false, 0, 0, 0, false, [])).2.2.2.1) ((p241.getD p238.toNat (0, 0, false, 0, 0, 0, false, [])).2.2.2.2.1) ((p241.getD p238.toNat (0, 0, false, 0, 0, 0, false, [])).2.2.2.2.2.1) ((p241.getD p238.toNat (0, 0, false, 0, 0, 0, false, [])).2.2.2.2.2.2.1) ((p241.getD p238.toNat (0, 0, false, 0, 0, 0, false, [])).2.2.2.2.2.2.2) p239).bind fun y242 =>
      bif (!y242) then
        some (.inl false)
      else
        f_spec_WorldOk.l1 n p237 (IntKind.wrap .i64 (p238 + (1 : Int))) p239 p240 p241
      else none
    else
      some (.inr p237)
noncomputable def f_spec_WorldOk.l0 : Nat → Bool → Int → Int → (List (Int × (List (Int × List Int × Bool)) × (List (List Int × Int × List Bool × Bool × Int × Bool × Int × (List (Int × Bool)))) × (List (Int × (List (Int × Int × Bool × List Int)))) × List Int)) → (List (Int × Int × Bool × Int × Int × Int × Bool × List Int)) → Option ((Bool) ⊕ (Bool × Int × (List (Int × (List (Int × List Int × Bool)) × (List (List Int × Int × List Bool × Bool × Int × Bool × Int × (List (Int × Bool)))) × (List (Int × (List (Int × Int × Bool × List Int)))) × List Int)) × (List (Int × Int × Bool × Int × Int × Int × Bool × List Int))))
  | 0, _, _, _, _, _ => none
  | n + 1, p228, p229, p230, p231, p232 =>
    bif (decide (p229 < p230)) then
      bif ((decide ((0 : Int) ≤ p229)) && (decide (p229 < (p231.length : Int)))) then
      (f_spec_NodeOk ((p231.getD p229.toNat (0, [], [], [], [])).1) ((p231.getD p229.toNat (0, [], [], [], [])).2.1) ((p231.getD p229.toNat (0, [], [], [], [])).2.2.1) ((p231.getD p229.toNat (0, [], [], [], [])).2.2.2.1) ((p231.getD p229.toNat (0, [], [], [], [])).2.2.2.2) p230).bind fun y233 =>
      bif (!y233) then
        some (.inl false)
      else
        bif ((decide ((0 : Int) ≤ p229)) && (decide (p229 < (p231.length : Int)))) then
        bif (!(decide (((p231.getD p229.toNat (0, [], [], [], [])).1) = p229))) then
          some (.inl false)
        else
          f_spec_WorldOk.l0 n p228 (IntKind.wrap .i64 (p229 + (1 : Int))) p230 p231 p232
        else none
      else none
    else
      some (.inr (p228, p230, p231, p232))
noncomputable def f_spec_WorldOk (x0 : Int) (x1 : List (Int × (List (Int × List Int × Bool)) × (List (List Int × Int × List Bool × Bool × Int × Bool × Int × (List (Int × Bool)))) × (List (Int × (List (Int × Int × Bool × List Int)))) × List Int)) (x2 : List (Int × Int × Bool × Int × Int × Int × Bool × List Int)) : Option (Bool) :=
  (f_spec_l1In x0 1 4).bind fun y227 =>
  bif (!y227) then
    some false
  else
    bif (!(decide ((x1.length : Int) = x0))) then
      some false
    else
      bif (decide ((40 : Int) < (x2.length : Int))) then
        some false
      else
        (f_spec_WorldOk.l0 N false 0 x0 x1 x2).bind fun r234 =>
        cs r234 (fun a235 =>
          some a235) (fun b236 =>
          (f_spec_WorldOk.l1 N b236.1 0 b236.2.1 b236.2.2.1 b236.2.2.2).bind fun r243 =>
          cs r243 (fun a244 =>
            some a244) (fun b245 =>
            some true))
noncomputable def C59 : Con := ⟨[(.B, true, [(.int .i64), (.sl R7), (.sl R8)])], [(false, [.bool])], [(.int .i64), (.sl R7), (.sl R8)], [.bool], fun (p : Int × (List (Int × (List (Int × List Int × Bool)) × (List (List Int × Int × List Bool × Bool × Int × Bool × Int × (List (Int × Bool)))) × (List (Int × (List (Int × Int × Bool × List Int)))) × List Int)) × (List (Int × Int × Bool × Int × Int × Int × Bool × List Int))) => f_spec_WorldOk p.1 p.2.1 p.2.2⟩
noncomputable def f_spec_WorldOk.l0.c : LoopCon := ⟨1000, 6, [1, 2, 3], ⟨[(1, .ptr 1000 0), (2, .bool false), (3, .int .i64 0)], [(1000, .box [.int .i64 0, .bor none R7 [], .bor none R8 []])], 1001⟩, [.bool, (.int .i64), (.int .i64), (.sl R7), (.sl R8)], [⟨.ret, [2], ⟨[(2, .bool false)], [], 1000⟩, [.bool]⟩, ⟨.exit 0, [1, 2], ⟨[(1, .ptr 1000 0), (2, .bool false)], [(1000, .box [.int .i64 0, .bor none R7 [], .bor none R8 []])], 1001⟩, [.bool, (.int .i64), (.sl R7), (.sl R8)]⟩], fun (p : Bool × Int × Int × (List (Int × (List (Int × List Int × Bool)) × (List (List Int × Int × List Bool × Bool × Int × Bool × Int × (List (Int × Bool)))) × (List (Int × (List (Int × Int × Bool × List Int)))) × List Int)) × (List (Int × Int × Bool × Int × Int × Int × Bool × List Int))) => f_spec_WorldOk.l0 N p.1 p.2.1 p.2.2.1 p.2.2.2.1 p.2.2.2.2⟩
noncomputable def f_spec_WorldOk.l1.c : LoopCon := ⟨1000, 6, [1, 2, 4], ⟨[(1, .ptr 1000 0), (2, .bool false), (4, .int .i64 0)], [(1000, .box [.int .i64 0, .bor none R7 [], .bor none R8 []])], 1001⟩, [.bool, (.int .i64), (.int .i64), (.sl R7), (.sl R8)], [⟨.ret, [2], ⟨[(2, .bool false)], [], 1000⟩, [.bool]⟩, ⟨.exit 2, [2], ⟨[(2, .bool false)], [], 1000⟩, [.bool]⟩], fun (p : Bool × Int × Int × (List (Int × (List (Int × List Int × Bool)) × (List (List Int × Int × List Bool × Bool × Int × Bool × Int × (List (Int × Bool)))) × (List (Int × (List (Int × Int × Bool × List Int)))) × List Int)) × (List (Int × Int × Bool × Int × Int × Int × Bool × List Int))) => f_spec_WorldOk.l1 N p.1 p.2.1 p.2.2.1 p.2.2.2.1 p.2.2.2.2⟩
noncomputable abbrev K59 : Cons := [(48, C48), (60, C60), (138, C138)]
noncomputable abbrev L59 : List (Nat × Loops) := [(59, [(4, f_spec_WorldOk.l0.c), (9, f_spec_WorldOk.l1.c)])]
abbrev Q59 : List (Nat × List (Int × Nat) × Nat) := []
noncomputable abbrev X59 : Nat → Ctx := ctxOf tb K59 L59 Q59
theorem f_spec_WorldOk.l0.ok : ∀ n p, (fun (p : Bool × Int × Int × (List (Int × (List (Int × List Int × Bool)) × (List (List Int × Int × List Bool × Bool × Int × Bool × Int × (List (Int × Bool)))) × (List (Int × (List (Int × Int × Bool × List Int)))) × List Int)) × (List (Int × Int × Bool × Int × Int × Int × Bool × List Int))) => f_spec_WorldOk.l0 n p.1 p.2.1 p.2.2.1 p.2.2.2.1 p.2.2.2.2) p = iterD (roundOf fs X59 6 59 4 false f_spec_WorldOk.l0.c) n p :=
  iter_of (l := fun n => fun (p : Bool × Int × Int × (List (Int × (List (Int × List Int × Bool)) × (List (List Int × Int × List Bool × Bool × Int × Bool × Int × (List (Int × Bool)))) × (List (Int × (List (Int × Int × Bool × List Int)))) × List Int)) × (List (Int × Int × Bool × Int × Int × Int × Bool × List Int))) => f_spec_WorldOk.l0 n p.1 p.2.1 p.2.2.1 p.2.2.2.1 p.2.2.2.2) (fun _ => rfl) (fun n p => by kernel_rfl)
theorem f_spec_WorldOk.l1.ok : ∀ n p, (fun (p : Bool × Int × Int × (List (Int × (List (Int × List Int × Bool)) × (List (List Int × Int × List Bool × Bool × Int × Bool × Int × (List (Int × Bool)))) × (List (Int × (List (Int × Int × Bool × List Int)))) × List Int)) × (List (Int × Int × Bool × Int × Int × Int × Bool × List Int))) => f_spec_WorldOk.l1 n p.1 p.2.1 p.2.2.1 p.2.2.2.1 p.2.2.2.2) p = iterD (roundOf fs X59 6 59 9 false f_spec_WorldOk.l1.c) n p :=
  iter_of (l := fun n => fun (p : Bool × Int × Int × (List (Int × (List (Int × List Int × Bool)) × (List (List Int × Int × List Bool × Bool × Int × Bool × Int × (List (Int × Bool)))) × (List (Int × (List (Int × Int × Bool × List Int)))) × List Int)) × (List (Int × Int × Bool × Int × Int × Int × Bool × List Int))) => f_spec_WorldOk.l1 n p.1 p.2.1 p.2.2.1 p.2.2.2.1 p.2.2.2.2) (fun _ => rfl) (fun n p => by kernel_rfl)
theorem E59 : ∀ x, funRun fs X59 6 59 C59 x = C59.fn x := fun x => by kernel_rfl
theorem B59 : ConB Tryz.prog 59 C59 := ConB.make FS MIX TY (cons := K59) (L := L59) (ptrs := Q59) ⟨S48, S60, S138, trivial⟩ trivial ⟨⟨⟨N, fun p => f_spec_WorldOk.l0.ok N p⟩, ⟨N, fun p => f_spec_WorldOk.l1.ok N p⟩, trivial⟩, trivial⟩ rfl rfl E59
theorem S59 : ConS Tryz.prog 59 C59 := B59.call rfl
/-! spec.l1Bit: function 61 -/
noncomputable def f_spec_l1Bit (x0 : Bool) : Option (Int) :=
  bif x0 then
    some 1
  else
    some 0
noncomputable def C61 : Con := ⟨[(.B, false, [.bool])], [(false, [(.int .i64)])], [.bool], [(.int .i64)], fun (p : Bool) => f_spec_l1Bit p⟩
noncomputable abbrev K61 : Cons := []
noncomputable abbrev L61 : List (Nat × Loops) := []
abbrev Q61 : List (Nat × List (Int × Nat) × Nat) := []
noncomputable abbrev X61 : Nat → Ctx := ctxOf tb K61 L61 Q61
theorem E61 : ∀ x, funRun fs X61 6 61 C61 x = C61.fn x := fun x => by kernel_rfl
theorem B61 : ConB Tryz.prog 61 C61 := ConB.make FS MIX TY (cons := K61) (L := L61) (ptrs := Q61) trivial trivial trivial rfl rfl E61
theorem S61 : ConS Tryz.prog 61 C61 := B61.call rfl
/-! spec.Alone: function 12 -/
noncomputable def f_spec_Alone.l0 : Nat → Int → Bool → Int → Int → Int → Int → (List (Int × (List (Int × List Int × Bool)) × (List (List Int × Int × List Bool × Bool × Int × Bool × Int × (List (Int × Bool)))) × (List (Int × (List (Int × Int × Bool × List Int)))) × List Int)) → (List (Int × Int × Bool × Int × Int × Int × Bool × List Int)) → Option (Bool × Int × Int)
  | 0, _, _, _, _, _, _, _, _ => none
  | n + 1, p248, p249, p250, p251, p252, p253, p254, p255 =>
    bif (decide (p252 < p253)) then
      bif ((decide ((0 : Int) ≤ p252)) && (decide (p252 < (p254.length : Int)))) then
      bif ((decide ((0 : Int) ≤ p248)) && (decide (p248 < (((p254.getD p252.toNat (0, [], [], [], [])).2.1).length : Int)))) then
      (f_spec_l1Bit (!(decide (((((p254.getD p252.toNat (0, [], [], [], [])).2.1).getD p248.toNat (0, [], false)).1) = (0 : Int))))).bind fun y256 =>
      bif ((decide ((0 : Int) ≤ p252)) && (decide (p252 < (p254.length : Int)))) then
      bif ((decide ((0 : Int) ≤ p248)) && (decide (p248 < (((p254.getD p252.toNat (0, [], [], [], [])).2.1).length : Int)))) then
      (f_spec_l1Bit (decide (((((p254.getD p252.toNat (0, [], [], [], [])).2.1).getD p248.toNat (0, [], false)).1) = (2 : Int)))).bind fun y257 =>
      f_spec_Alone.l0 n p248 p249 (IntKind.wrap .i64 (p250 + y256)) (IntKind.wrap .i64 (p251 + y257)) (IntKind.wrap .i64 (p252 + (1 : Int))) p253 p254 p255
      else none
      else none
      else none
      else none
    else
      some (p249, p250, p251)
noncomputable def f_spec_Alone (x0 : Int) (x1 : List (Int × (List (Int × List Int × Bool)) × (List (List Int × Int × List Bool × Bool × Int × Bool × Int × (List (Int × Bool)))) × (List (Int × (List (Int × Int × Bool × List Int)))) × List Int)) (x2 : List (Int × Int × Bool × Int × Int × Int × Bool × List Int)) (x3 : Int) : Option (Bool) :=
  (f_spec_WorldOk x0 x1 x2).bind fun y246 =>
  bif (!y246) then
    some false
  else
    (f_spec_l1In x3 0 5).bind fun y247 =>
    bif (!y247) then
      some false
    else
      (f_spec_Alone.l0 N x3 false 0 0 0 x0 x1 x2).bind fun r258 =>
      bif (decide (r258.2.2 = (0 : Int))) then
        some true
      else
        bif (decide (r258.2.2 = (1 : Int))) then
          some (decide (r258.2.1 = (1 : Int)))
        else
          some false
noncomputable def C12 : Con := ⟨[(.B, true, [(.int .i64), (.sl R7), (.sl R8)]), (.B, false, [(.int .i64)])], [(false, [.bool])], [(.int .i64), (.sl R7), (.sl R8), (.int .i64)], [.bool], fun (p : Int × (List (Int × (List (Int × List Int × Bool)) × (List (List Int × Int × List Bool × Bool × Int × Bool × Int × (List (Int × Bool)))) × (List (Int × (List (Int × Int × Bool × List Int)))) × List Int)) × (List (Int × Int × Bool × Int × Int × Int × Bool × List Int)) × Int) => f_spec_Alone p.1 p.2.1 p.2.2.1 p.2.2.2⟩
noncomputable def f_spec_Alone.l0.c : LoopCon := ⟨1000, 6, [1, 2, 4, 5, 6, 7], ⟨[(1, .int .i64 0), (2, .ptr 1000 0), (4, .bool false), (5, .int .i64 0), (6, .int .i64 0), (7, .int .i64 0)], [(1000, .box [.int .i64 0, .bor none R7 [], .bor none R8 []])], 1001⟩, [(.int .i64), .bool, (.int .i64), (.int .i64), (.int .i64), (.int .i64), (.sl R7), (.sl R8)], [⟨.exit 0, [4, 5, 6], ⟨[(4, .bool false), (5, .int .i64 0), (6, .int .i64 0)], [], 1000⟩, [.bool, (.int .i64), (.int .i64)]⟩], fun (p : Int × Bool × Int × Int × Int × Int × (List (Int × (List (Int × List Int × Bool)) × (List (List Int × Int × List Bool × Bool × Int × Bool × Int × (List (Int × Bool)))) × (List (Int × (List (Int × Int × Bool × List Int)))) × List Int)) × (List (Int × Int × Bool × Int × Int × Int × Bool × List Int))) => f_spec_Alone.l0 N p.1 p.2.1 p.2.2.1 p.2.2.2.1 p.2.2.2.2.1 p.2.2.2.2.2.1 p.2.2.2.2.2.2.1 p.2.2.2.2.2.2.2⟩
noncomputable abbrev K12 : Cons := [(59, C59), (60, C60), (61, C61)]
noncomputable abbrev L12 : List (Nat × Loops) := [(12, [(5, f_spec_Alone.l0.c)])]
abbrev Q12 : List (Nat × List (Int × Nat) × Nat) := []
noncomputable abbrev X12 : Nat → Ctx := ctxOf tb K12 L12 Q12
theorem f_spec_Alone.l0.ok : ∀ n p, (fun (p : Int × Bool × Int × Int × Int × Int × (List (Int × (List (Int × List Int × Bool)) × (List (List Int × Int × List Bool × Bool × Int × Bool × Int × (List (Int × Bool)))) × (List (Int × (List (Int × Int × Bool × List Int)))) × List Int)) × (List (Int × Int × Bool × Int × Int × Int × Bool × List Int))) => f_spec_Alone.l0 n p.1 p.2.1 p.2.2.1 p.2.2.2.1 p.2.2.2.2.1 p.2.2.2.2.2.1 p.2.2.2.2.2.2.1 p.2.2.2.2.2.2.2) p = iterD (roundOf fs X12 6 12 5 false f_spec_Alone.l0.c) n p :=
  iter_of (l := fun n => fun (p : Int × Bool × Int × Int × Int × Int × (List (Int × (List (Int × List Int × Bool)) × (List (List Int × Int × List Bool × Bool × Int × Bool × Int × (List (Int × Bool)))) × (List (Int × (List (Int × Int × Bool × List Int)))) × List Int)) × (List (Int × Int × Bool × Int × Int × Int × Bool × List Int))) => f_spec_Alone.l0 n p.1 p.2.1 p.2.2.1 p.2.2.2.1 p.2.2.2.2.1 p.2.2.2.2.2.1 p.2.2.2.2.2.2.1 p.2.2.2.2.2.2.2) (fun _ => rfl) (fun n p => by kernel_rfl)
theorem E12 : ∀ x, funRun fs X12 6 12 C12 x = C12.fn x := fun x => by kernel_rfl
theorem B12 : ConB Tryz.prog 12 C12 := ConB.make FS MIX TY (cons := K12) (L := L12) (ptrs := Q12) ⟨S59, S60, S61, trivial⟩ trivial ⟨⟨⟨N, fun p => f_spec_Alone.l0.ok N p⟩, trivial⟩, trivial⟩ rfl rfl E12
theorem S12 : ConS Tryz.prog 12 C12 := B12.call rfl
/-! spec.l1Msg: function 154 -/
noncomputable def f_spec_l1Msg (x0 : Int) (x1 : Int) (x2 : Bool) (x3 : List Int) : Option (Int × Int × Bool × List Int) :=
  bif (Nat.blt (([] : List Int).length + x3.length) 17592186044416) then
  (some ((([] : List Int) ++ x3) : List Int)).bind fun z259 =>
  some (x0, x1, x2, z259)
  else none
noncomputable def C154 : Con := ⟨[(.B, true, [(.int .i64), (.int .i64), .bool, (.sl R0)])], [(true, [(.int .i64), (.int .i64), .bool, (.sl R0)])], [(.int .i64), (.int .i64), .bool, (.sl R0)], [(.int .i64), (.int .i64), .bool, (.sl R0)], fun (p : Int × Int × Bool × List Int) => f_spec_l1Msg p.1 p.2.1 p.2.2.1 p.2.2.2⟩
noncomputable abbrev K154 : Cons := []
noncomputable abbrev L154 : List (Nat × Loops) := []
abbrev Q154 : List (Nat × List (Int × Nat) × Nat) := []
noncomputable abbrev X154 : Nat → Ctx := ctxOf tb K154 L154 Q154
theorem E154 : ∀ x, funRun fs X154 6 154 C154 x = C154.fn x := fun x => by kernel_rfl
theorem B154 : ConB Tryz.prog 154 C154 := ConB.make FS MIX TY (cons := K154) (L := L154) (ptrs := Q154) trivial trivial trivial rfl rfl E154
theorem S154 : ConS Tryz.prog 154 C154 := B154.call rfl
/-! spec.l7Coming: function 99 -/
noncomputable def f_spec_l7Coming.l0 : Nat → Int → Int → (List (Int × Int × Bool × List Int)) → Int → (List (Int × Int × Bool × List Int)) → Option ((List (Int × Int × Bool × List Int)))
  | 0, _, _, _, _, _ => none
  | n + 1, p260, p261, p262, p263, p264 =>
    bif (decide (p261 < (p264.length : Int))) then
      bif (decide (p260 ≤ (IntKind.wrap .i64 (p263 + p261)))) then
        bif ((decide ((0 : Int) ≤ p261)) && (decide (p261 < (p264.length : Int)))) then
        (f_spec_l1Msg ((p264.getD p261.toNat (0, 0, false, [])).1) ((p264.getD p261.toNat (0, 0, false, [])).2.1) ((p264.getD p261.toNat (0, 0, false, [])).2.2.1) ((p264.getD p261.toNat (0, 0, false, [])).2.2.2)).bind fun y265 =>
        bif (Nat.blt (p262.length + ([(y265.1, y265.2.1, y265.2.2.1, y265.2.2.2)] : List (Int × Int × Bool × List Int)).length) 2932031007402) then
        (some ((p262 ++ ([(y265.1, y265.2.1, y265.2.2.1, y265.2.2.2)] : List (Int × Int × Bool × List Int))) : List (Int × Int × Bool × List Int))).bind fun z266 =>
        f_spec_l7Coming.l0 n p260 (IntKind.wrap .i64 (p261 + (1 : Int))) z266 p263 p264
        else none
        else none
      else
        f_spec_l7Coming.l0 n p260 (IntKind.wrap .i64 (p261 + (1 : Int))) p262 p263 p264
    else
      some p262
noncomputable def f_spec_l7Coming (x0 : Int) (x1 : List (Int × (List (Int × List Int × Bool)) × (List (List Int × Int × List Bool × Bool × Int × Bool × Int × (List (Int × Bool)))) × (List (Int × (List (Int × Int × Bool × List Int)))) × List Int)) (x2 : List (Int × Int × Bool × Int × Int × Int × Bool × List Int)) (x3 : Int) (x4 : Int) : Option ((List (Int × Int × Bool × List Int))) :=
  bif ((decide ((0 : Int) ≤ x3)) && (decide (x3 < (x1.length : Int)))) then
  bif ((decide ((0 : Int) ≤ x4)) && (decide (x4 < (((x1.getD x3.toNat (0, [], [], [], [])).2.2.2.1).length : Int)))) then
  bif ((decide ((0 : Int) ≤ x4)) && (decide (x4 < (x1.length : Int)))) then
  bif ((decide ((0 : Int) ≤ x3)) && (decide (x3 < (((x1.getD x4.toNat (0, [], [], [], [])).2.2.2.2).length : Int)))) then
  (f_spec_l7Coming.l0 N (((x1.getD x4.toNat (0, [], [], [], [])).2.2.2.2).getD x3.toNat 0) 0 ([] : List (Int × Int × Bool × List Int)) ((((x1.getD x3.toNat (0, [], [], [], [])).2.2.2.1).getD x4.toNat (0, [])).1) ((((x1.getD x3.toNat (0, [], [], [], [])).2.2.2.1).getD x4.toNat (0, [])).2)).bind fun r267 =>
  some r267
  else none
  else none
  else none
  else none
noncomputable def C99 : Con := ⟨[(.B, true, [(.int .i64), (.sl R7), (.sl R8)]), (.B, false, [(.int .i64)]), (.B, false, [(.int .i64)])], [(false, [(.sl R5)])], [(.int .i64), (.sl R7), (.sl R8), (.int .i64), (.int .i64)], [(.sl R5)], fun (p : Int × (List (Int × (List (Int × List Int × Bool)) × (List (List Int × Int × List Bool × Bool × Int × Bool × Int × (List (Int × Bool)))) × (List (Int × (List (Int × Int × Bool × List Int)))) × List Int)) × (List (Int × Int × Bool × Int × Int × Int × Bool × List Int)) × Int × Int) => f_spec_l7Coming p.1 p.2.1 p.2.2.1 p.2.2.2.1 p.2.2.2.2⟩
noncomputable def f_spec_l7Coming.l0.c : LoopCon := ⟨1000, 6, [6, 7, 8, 9, 10], ⟨[(6, .nil (some R5)), (7, .ref 1000 [] none), (8, .ptr 1001 0), (9, .int .i64 0), (10, .int .i64 0)], [(1000, .row R5 []), (1001, .box [.int .i64 0, .bor none R5 []])], 1002⟩, [(.int .i64), (.int .i64), (.sl R5), (.int .i64), (.sl R5)], [⟨.exit 0, [6, 7], ⟨[(6, .nil (some R5)), (7, .ref 1000 [] none)], [(1000, .row R5 [])], 1001⟩, [(.sl R5)]⟩], fun (p : Int × Int × (List (Int × Int × Bool × List Int)) × Int × (List (Int × Int × Bool × List Int))) => f_spec_l7Coming.l0 N p.1 p.2.1 p.2.2.1 p.2.2.2.1 p.2.2.2.2⟩
noncomputable abbrev K99 : Cons := [(154, C154)]
noncomputable abbrev L99 : List (Nat × Loops) := [(99, [(5, f_spec_l7Coming.l0.c)])]
abbrev Q99 : List (Nat × List (Int × Nat) × Nat) := []
noncomputable abbrev X99 : Nat → Ctx := ctxOf tb K99 L99 Q99
theorem f_spec_l7Coming.l0.ok : ∀ n p, (fun (p : Int × Int × (List (Int × Int × Bool × List Int)) × Int × (List (Int × Int × Bool × List Int))) => f_spec_l7Coming.l0 n p.1 p.2.1 p.2.2.1 p.2.2.2.1 p.2.2.2.2) p = iterD (roundOf fs X99 6 99 5 false f_spec_l7Coming.l0.c) n p :=
  iter_of (l := fun n => fun (p : Int × Int × (List (Int × Int × Bool × List Int)) × Int × (List (Int × Int × Bool × List Int))) => f_spec_l7Coming.l0 n p.1 p.2.1 p.2.2.1 p.2.2.2.1 p.2.2.2.2) (fun _ => rfl) (fun n p => by kernel_rfl)
theorem E99 : ∀ x, funRun fs X99 6 99 C99 x = C99.fn x := fun x => by kernel_rfl
theorem B99 : ConB Tryz.prog 99 C99 := ConB.make FS MIX TY (cons := K99) (L := L99) (ptrs := Q99) ⟨S154, trivial⟩ trivial ⟨⟨⟨N, fun p => f_spec_l7Coming.l0.ok N p⟩, trivial⟩, trivial⟩ rfl rfl E99
theorem S99 : ConS Tryz.prog 99 C99 := B99.call rfl
/-! spec.l7Last: function 145 -/
noncomputable def f_spec_l7Last.l0 : Nat → (List (Int × Int × Bool × List Int)) → Int → Int → Int → (List Int) → Option (List Int)
  | 0, _, _, _, _, _ => none
  | n + 1, p268, p269, p270, p271, p272 =>
    bif (decide (p271 < (p268.length : Int))) then
      bif ((decide ((0 : Int) ≤ p271)) && (decide (p271 < (p268.length : Int)))) then
      bif (decide (((p268.getD p271.toNat (0, 0, false, [])).1) = p269)) then
        bif (decide (((p268.getD p271.toNat (0, 0, false, [])).2.1) = p270)) then
          bif (p268.getD p271.toNat (0, 0, false, [])).2.2.1 then
            bif (Nat.blt (([] : List Int).length + ((p268.getD p271.toNat (0, 0, false, [])).2.2.2).length) 17592186044416) then
            (some ((([] : List Int) ++ ((p268.getD p271.toNat (0, 0, false, [])).2.2.2)) : List Int)).bind fun z273 =>
            f_spec_l7Last.l0 n p268 p269 p270 (IntKind.wrap .i64 (p271 + (1 : Int))) z273
            else none
          else
            bif (decide (p269 = (7 : Int))) then
              bif (Nat.blt (([] : List Int).length + ((p268.getD p271.toNat (0, 0, false, [])).2.2.2).length) 17592186044416) then
              (some ((([] : List Int) ++ ((p268.getD p271.toNat (0, 0, false, [])).2.2.2)) : List Int)).bind fun z274 =>
              f_spec_l7Last.l0 n p268 p269 p270 (IntKind.wrap .i64 (p271 + (1 : Int))) z274
              else none
            else
              f_spec_l7Last.l0 n p268 p269 p270 (IntKind.wrap .i64 (p271 + (1 : Int))) p272
        else
          f_spec_l7Last.l0 n p268 p269 p270 (IntKind.wrap .i64 (p271 + (1 : Int))) p272
      else
        f_spec_l7Last.l0 n p268 p269 p270 (IntKind.wrap .i64 (p271 + (1 : Int))) p272
      else none
    else
      some p272
noncomputable def f_spec_l7Last (x0 : List (Int × Int × Bool × List Int)) (x1 : Int) (x2 : Int) : Option (List Int) :=
  (f_spec_l7Last.l0 N x0 x1 x2 0 ([] : List Int)).bind fun r275 =>
  some r275
noncomputable def C145 : Con := ⟨[(.B, false, [(.sl R5)]), (.B, false, [(.int .i64)]), (.B, false, [(.int .i64)])], [(false, [(.sl R0)])], [(.sl R5), (.int .i64), (.int .i64)], [(.sl R0)], fun (p : (List (Int × Int × Bool × List Int)) × Int × Int) => f_spec_l7Last p.1 p.2.1 p.2.2⟩
noncomputable def f_spec_l7Last.l0.c : LoopCon := ⟨1000, 6, [0, 1, 2, 6, 7, 8], ⟨[(0, .bor none R5 []), (1, .int .i64 0), (2, .int .i64 0), (6, .nil (some R0)), (7, .ref 1000 [] none), (8, .int .i64 0)], [(1000, .row R0 [])], 1001⟩, [(.sl R5), (.int .i64), (.int .i64), (.int .i64), (.sl R0)], [⟨.exit 0, [6, 7], ⟨[(6, .nil (some R0)), (7, .ref 1000 [] none)], [(1000, .row R0 [])], 1001⟩, [(.sl R0)]⟩], fun (p : (List (Int × Int × Bool × List Int)) × Int × Int × Int × List Int) => f_spec_l7Last.l0 N p.1 p.2.1 p.2.2.1 p.2.2.2.1 p.2.2.2.2⟩
noncomputable abbrev K145 : Cons := []
noncomputable abbrev L145 : List (Nat × Loops) := [(145, [(3, f_spec_l7Last.l0.c)])]
abbrev Q145 : List (Nat × List (Int × Nat) × Nat) := []
noncomputable abbrev X145 : Nat → Ctx := ctxOf tb K145 L145 Q145
theorem f_spec_l7Last.l0.ok : ∀ n p, (fun (p : (List (Int × Int × Bool × List Int)) × Int × Int × Int × List Int) => f_spec_l7Last.l0 n p.1 p.2.1 p.2.2.1 p.2.2.2.1 p.2.2.2.2) p = iterD (roundOf fs X145 6 145 3 false f_spec_l7Last.l0.c) n p :=
  iter_of (l := fun n => fun (p : (List (Int × Int × Bool × List Int)) × Int × Int × Int × List Int) => f_spec_l7Last.l0 n p.1 p.2.1 p.2.2.1 p.2.2.2.1 p.2.2.2.2) (fun _ => rfl) (fun n p => by kernel_rfl)
theorem E145 : ∀ x, funRun fs X145 6 145 C145 x = C145.fn x := fun x => by kernel_rfl
theorem B145 : ConB Tryz.prog 145 C145 := ConB.make FS MIX TY (cons := K145) (L := L145) (ptrs := Q145) trivial trivial ⟨⟨⟨N, fun p => f_spec_l7Last.l0.ok N p⟩, trivial⟩, trivial⟩ rfl rfl E145
theorem S145 : ConS Tryz.prog 145 C145 := B145.call rfl
/-! spec.l7Truth: function 69 -/
noncomputable def f_spec_l7Truth (x0 : Int) (x1 : List (Int × (List (Int × List Int × Bool)) × (List (List Int × Int × List Bool × Bool × Int × Bool × Int × (List (Int × Bool)))) × (List (Int × (List (Int × Int × Bool × List Int)))) × List Int)) (x2 : List (Int × Int × Bool × Int × Int × Int × Bool × List Int)) (x3 : Int) : Option (List Int) :=
  bif (decide (x0 = (0 : Int))) then none else
  bif ((decide ((0 : Int) ≤ (Int.tmod x3 x0))) && (decide ((Int.tmod x3 x0) < (x1.length : Int)))) then
  bif ((decide ((0 : Int) ≤ x3)) && (decide (x3 < (((x1.getD (Int.tmod x3 x0).toNat (0, [], [], [], [])).2.2.1).length : Int)))) then
  bif (decide (((((x1.getD (Int.tmod x3 x0).toNat (0, [], [], [], [])).2.2.1).getD x3.toNat ([], 0, [], false, 0, false, 0, [])).2.1) < (0 : Int))) then
    bif (Nat.blt (([] : List Int).length + ((((x1.getD (Int.tmod x3 x0).toNat (0, [], [], [], [])).2.2.1).getD x3.toNat ([], 0, [], false, 0, false, 0, [])).1).length) 17592186044416) then
    (some ((([] : List Int) ++ ((((x1.getD (Int.tmod x3 x0).toNat (0, [], [], [], [])).2.2.1).getD x3.toNat ([], 0, [], false, 0, false, 0, [])).1)) : List Int)).bind fun z276 =>
    some z276
    else none
  else
    bif ((decide ((0 : Int) ≤ ((((x1.getD (Int.tmod x3 x0).toNat (0, [], [], [], [])).2.2.1).getD x3.toNat ([], 0, [], false, 0, false, 0, [])).2.1))) && (decide (((((x1.getD (Int.tmod x3 x0).toNat (0, [], [], [], [])).2.2.1).getD x3.toNat ([], 0, [], false, 0, false, 0, [])).2.1) < (x1.length : Int)))) then
    bif ((decide ((0 : Int) ≤ x3)) && (decide (x3 < (((x1.getD ((((x1.getD (Int.tmod x3 x0).toNat (0, [], [], [], [])).2.2.1).getD x3.toNat ([], 0, [], false, 0, false, 0, [])).2.1).toNat (0, [], [], [], [])).2.1).length : Int)))) then
    bif (decide (((((x1.getD ((((x1.getD (Int.tmod x3 x0).toNat (0, [], [], [], [])).2.2.1).getD x3.toNat ([], 0, [], false, 0, false, 0, [])).2.1).toNat (0, [], [], [], [])).2.1).getD x3.toNat (0, [], false)).1) = (2 : Int))) then
      bif (Nat.blt (([] : List Int).length + ((((x1.getD ((((x1.getD (Int.tmod x3 x0).toNat (0, [], [], [], [])).2.2.1).getD x3.toNat ([], 0, [], false, 0, false, 0, [])).2.1).toNat (0, [], [], [], [])).2.1).getD x3.toNat (0, [], false)).2.1).length) 17592186044416) then
      (some ((([] : List Int) ++ ((((x1.getD ((((x1.getD (Int.tmod x3 x0).toNat (0, [], [], [], [])).2.2.1).getD x3.toNat ([], 0, [], false, 0, false, 0, [])).2.1).toNat (0, [], [], [], [])).2.1).getD x3.toNat (0, [], false)).2.1)) : List Int)).bind fun z277 =>
      some z277
      else none
    else
      (f_spec_l7Coming x0 x1 x2 (Int.tmod x3 x0) ((((x1.getD (Int.tmod x3 x0).toNat (0, [], [], [], [])).2.2.1).getD x3.toNat ([], 0, [], false, 0, false, 0, [])).2.1)).bind fun y278 =>
      (f_spec_l7Last y278 3 x3).bind fun y279 =>
      bif (decide ((0 : Int) < (y279.length : Int))) then
        some y279
      else
        (f_spec_l7Coming x0 x1 x2 ((((x1.getD (Int.tmod x3 x0).toNat (0, [], [], [], [])).2.2.1).getD x3.toNat ([], 0, [], false, 0, false, 0, [])).2.1) (Int.tmod x3 x0)).bind fun y280 =>
        (f_spec_l7Last y280 7 x3).bind fun y281 =>
        some y281
    else none
    else none
  else none
  else none
noncomputable def C69 : Con := ⟨[(.B, true, [(.int .i64), (.sl R7), (.sl R8)]), (.B, false, [(.int .i64)])], [(false, [(.sl R0)])], [(.int .i64), (.sl R7), (.sl R8), (.int .i64)], [(.sl R0)], fun (p : Int × (List (Int × (List (Int × List Int × Bool)) × (List (List Int × Int × List Bool × Bool × Int × Bool × Int × (List (Int × Bool)))) × (List (Int × (List (Int × Int × Bool × List Int)))) × List Int)) × (List (Int × Int × Bool × Int × Int × Int × Bool × List Int)) × Int) => f_spec_l7Truth p.1 p.2.1 p.2.2.1 p.2.2.2⟩
noncomputable abbrev K69 : Cons := [(99, C99), (145, C145)]
noncomputable abbrev L69 : List (Nat × Loops) := []
abbrev Q69 : List (Nat × List (Int × Nat) × Nat) := []
noncomputable abbrev X69 : Nat → Ctx := ctxOf tb K69 L69 Q69
theorem E69 : ∀ x, funRun fs X69 6 69 C69 x = C69.fn x := fun x => by kernel_rfl
theorem B69 : ConB Tryz.prog 69 C69 := ConB.make FS MIX TY (cons := K69) (L := L69) (ptrs := Q69) ⟨S99, S145, trivial⟩ trivial trivial rfl rfl E69
theorem S69 : ConS Tryz.prog 69 C69 := B69.call rfl
/-! spec.l7Ints: function 70 -/
noncomputable def f_spec_l7Ints.l0 : Nat → (List Int) → (List Int) → Bool → Int → Option ((Bool) ⊕ (List Int × List Int × Bool))
  | 0, _, _, _, _ => none
  | n + 1, p282, p283, p284, p285 =>
    bif (decide (p285 < (p282.length : Int))) then
      bif (decide (p285 < (p283.length : Int))) then
        bif ((decide ((0 : Int) ≤ p285)) && (decide (p285 < (p282.length : Int)))) then
        bif ((decide ((0 : Int) ≤ p285)) && (decide (p285 < (p283.length : Int)))) then
        bif (!(decide ((p282.getD p285.toNat 0) = (p283.getD p285.toNat 0)))) then
          some (.inl false)
        else
          f_spec_l7Ints.l0 n p282 p283 p284 (IntKind.wrap .i64 (p285 + (1 : Int)))
        else none
        else none
      else
        some (.inr (p282, p283, p284))
    else
      some (.inr (p282, p283, p284))
noncomputable def f_spec_l7Ints (x0 : List Int) (x1 : List Int) : Option (Bool) :=
  (f_spec_l7Ints.l0 N x0 x1 false 0).bind fun r286 =>
  cs r286 (fun a287 =>
    some a287) (fun b288 =>
    some (decide ((b288.1.length : Int) = (b288.2.1.length : Int))))
noncomputable def C70 : Con := ⟨[(.B, false, [(.sl R0)]), (.B, false, [(.sl R0)])], [(false, [.bool])], [(.sl R0), (.sl R0)], [.bool], fun (p : List Int × List Int) => f_spec_l7Ints p.1 p.2⟩
noncomputable def f_spec_l7Ints.l0.c : LoopCon := ⟨1000, 6, [0, 1, 4, 5], ⟨[(0, .bor none R0 []), (1, .bor none R0 []), (4, .bool false), (5, .int .i64 0)], [], 1000⟩, [(.sl R0), (.sl R0), .bool, (.int .i64)], [⟨.ret, [4], ⟨[(4, .bool false)], [], 1000⟩, [.bool]⟩, ⟨.exit 0, [0, 1, 4], ⟨[(0, .bor none R0 []), (1, .bor none R0 []), (4, .bool false)], [], 1000⟩, [(.sl R0), (.sl R0), .bool]⟩], fun (p : List Int × List Int × Bool × Int) => f_spec_l7Ints.l0 N p.1 p.2.1 p.2.2.1 p.2.2.2⟩
noncomputable abbrev K70 : Cons := []
noncomputable abbrev L70 : List (Nat × Loops) := [(70, [(2, f_spec_l7Ints.l0.c)])]
abbrev Q70 : List (Nat × List (Int × Nat) × Nat) := []
noncomputable abbrev X70 : Nat → Ctx := ctxOf tb K70 L70 Q70
theorem f_spec_l7Ints.l0.ok : ∀ n p, (fun (p : List Int × List Int × Bool × Int) => f_spec_l7Ints.l0 n p.1 p.2.1 p.2.2.1 p.2.2.2) p = iterD (roundOf fs X70 6 70 2 false f_spec_l7Ints.l0.c) n p :=
  iter_of (l := fun n => fun (p : List Int × List Int × Bool × Int) => f_spec_l7Ints.l0 n p.1 p.2.1 p.2.2.1 p.2.2.2) (fun _ => rfl) (fun n p => by kernel_rfl)
theorem E70 : ∀ x, funRun fs X70 6 70 C70 x = C70.fn x := fun x => by kernel_rfl
theorem B70 : ConB Tryz.prog 70 C70 := ConB.make FS MIX TY (cons := K70) (L := L70) (ptrs := Q70) trivial trivial ⟨⟨⟨N, fun p => f_spec_l7Ints.l0.ok N p⟩, trivial⟩, trivial⟩ rfl rfl E70
theorem S70 : ConS Tryz.prog 70 C70 := B70.call rfl
/-! spec.Sane: function 16 -/
noncomputable def f_spec_Sane.l3 : Nat → Bool → Int → Int → Int → Int → Bool → Int → (List (Int × (List (Int × List Int × Bool)) × (List (List Int × Int × List Bool × Bool × Int × Bool × Int × (List (Int × Bool)))) × (List (Int × (List (Int × Int × Bool × List Int)))) × List Int)) → (List (Int × Int × Bool × Int × Int × Int × Bool × List Int)) → Option ((Bool) ⊕ (Bool × Int × Int × Int × Int × Bool × Int × Int × Bool × Int × (List (Int × (List (Int × List Int × Bool)) × (List (List Int × Int × List Bool × Bool × Int × Bool × Int × (List (Int × Bool)))) × (List (Int × (List (Int × Int × Bool × List Int)))) × List Int)) × (List (Int × Int × Bool × Int × Int × Int × Bool × List Int))))
  | 0, _, _, _, _, _, _, _, _, _ => none
  | n + 1, p329, p330, p331, p332, p333, p334, p335, p336, p337 =>
    bif (decide (p331 < p335)) then
      bif ((decide ((0 : Int) ≤ p331)) && (decide (p331 < (p336.length : Int)))) then
      bif ((decide ((0 : Int) ≤ p330)) && (decide (p330 < (((p336.getD p331.toNat (0, [], [], [], [])).2.2.2.1).length : Int)))) then
      bif ((decide ((0 : Int) ≤ p330)) && (decide (p330 < (p336.length : Int)))) then
      bif ((decide ((0 : Int) ≤ p331)) && (decide (p331 < (((p336.getD p330.toNat (0, [], [], [], [])).2.2.2.2).length : Int)))) then
      bif (decide ((IntKind.wrap .i64 (((((p336.getD p331.toNat (0, [], [], [], [])).2.2.2.1).getD p330.toNat (0, [])).1) + (((((p336.getD p331.toNat (0, [], [], [], [])).2.2.2.1).getD p330.toNat (0, [])).2).length : Int))) < (((p336.getD p330.toNat (0, [], [], [], [])).2.2.2.2).getD p331.toNat 0))) then
        some (.inl false)
      else
        f_spec_Sane.l3 n p329 p330 (IntKind.wrap .i64 (p331 + (1 : Int))) p332 p333 p334 p335 p336 p337
      else none
      else none
      else none
      else none
    else
      some (.inr (p329, p330, p331, p332, p333, p334, p331, p335, false, p335, p336, p337))
noncomputable def f_spec_Sane.l2 : Nat → Bool → Int → Int → (List (Int × (List (Int × List Int × Bool)) × (List (List Int × Int × List Bool × Bool × Int × Bool × Int × (List (Int × Bool)))) × (List (Int × (List (Int × Int × Bool × List Int)))) × List Int)) → (List (Int × Int × Bool × Int × Int × Int × Bool × List Int)) → Option ((Bool) ⊕ (Bool))
  | 0, _, _, _, _, _ => none
  | n + 1, p324, p325, p326, p327, p328 =>
    bif (decide (p325 < p326)) then
      (f_spec_Sane.l3 N p324 p325 0 p325 p326 true p326 p327 p328).bind fun r338 =>
      cs r338 (fun a339 =>
        some (.inl a339)) (fun b340 =>
        f_spec_Sane.l2 n b340.1 (IntKind.wrap .i64 (b340.2.1 + (1 : Int))) b340.2.2.2.2.2.2.2.2.2.1 b340.2.2.2.2.2.2.2.2.2.2.1 b340.2.2.2.2.2.2.2.2.2.2.2)
    else
      some (.inr p324)
noncomputable def f_spec_Sane.l1 : Nat → Bool → Int → Int → Int → Bool → Int → (List (Int × (List (Int × List Int × Bool)) × (List (List Int × Int × List Bool × Bool × Int × Bool × Int × (List (Int × Bool)))) × (List (Int × (List (Int × Int × Bool × List Int)))) × List Int)) → (List (Int × Int × Bool × Int × Int × Int × Bool × List Int)) → Int → Bool → Bool → Int → (List (Int × (List (Int × List Int × Bool)) × (List (List Int × Int × List Bool × Bool × Int × Bool × Int × (List (Int × Bool)))) × (List (Int × (List (Int × Int × Bool × List Int)))) × List Int)) → (List (Int × Int × Bool × Int × Int × Int × Bool × List Int)) → Int → Int → Bool → Int → (List (Int × (List (Int × List Int × Bool)) × (List (List Int × Int × List Bool × Bool × Int × Bool × Int × (List (Int × Bool)))) × (List (Int × (List (Int × Int × Bool × List Int)))) × List Int)) → (List (Int × Int × Bool × Int × Int × Int × Bool × List Int)) → (List Int) → Option ((Bool) ⊕ (Bool × Int × Int × Int × Bool × Int × (List (Int × (List (Int × List Int × Bool)) × (List (List Int × Int × List Bool × Bool × Int × Bool × Int × (List (Int × Bool)))) × (List (Int × (List (Int × Int × Bool × List Int)))) × List Int)) × (List (Int × Int × Bool × Int × Int × Int × Bool × List Int)) × Int × Bool × Bool × Int × (List (Int × (List (Int × List Int × Bool)) × (List (List Int × Int × List Bool × Bool × Int × Bool × Int × (List (Int × Bool)))) × (List (Int × (List (Int × Int × Bool × List Int)))) × List Int)) × (List (Int × Int × Bool × Int × Int × Int × Bool × List Int)) × Int × Int × Bool × Int × Int × Bool × Int × (List (Int × (List (Int × List Int × Bool)) × (List (List Int × Int × List Bool × Bool × Int × Bool × Int × (List (Int × Bool)))) × (List (Int × (List (Int × Int × Bool × List Int)))) × List Int)) × (List (Int × Int × Bool × Int × Int × Int × Bool × List Int)) × List Int))
  | 0, _, _, _, _, _, _, _, _, _, _, _, _, _, _, _, _, _, _, _, _, _ => none
  | n + 1, p296, p297, p298, p299, p300, p301, p302, p303, p304, p305, p306, p307, p308, p309, p310, p311, p312, p313, p314, p315, p316 =>
    bif (decide (p298 < p313)) then
      bif ((decide ((0 : Int) ≤ p298)) && (decide (p298 < (p314.length : Int)))) then
      bif ((decide ((0 : Int) ≤ p297)) && (decide (p297 < (((p314.getD p298.toNat (0, [], [], [], [])).2.1).length : Int)))) then
      bif (!(decide (((((p314.getD p298.toNat (0, [], [], [], [])).2.1).getD p297.toNat (0, [], false)).1) = (0 : Int)))) then
        (f_spec_l7Ints ((((p314.getD p298.toNat (0, [], [], [], [])).2.1).getD p297.toNat (0, [], false)).2.1) p316).bind fun y317 =>
        bif (!y317) then
          some (.inl false)
        else
          f_spec_Sane.l1 n p296 p297 (IntKind.wrap .i64 (p298 + (1 : Int))) p299 p300 p301 p302 p303 p304 p305 p306 p307 p308 p309 p310 p311 p312 p313 p314 p315 p316
      else
        f_spec_Sane.l1 n p296 p297 (IntKind.wrap .i64 (p298 + (1 : Int))) p299 p300 p301 p302 p303 p304 p305 p306 p307 p308 p309 p310 p311 p312 p313 p314 p315 p316
      else none
      else none
    else
      some (.inr (p296, p297, p298, p299, p300, p301, p302, p303, p304, p305, p306, p307, p308, p309, p310, p311, p312, p298, p313, false, p313, p314, p315, p316))
noncomputable def f_spec_Sane.l0 : Nat → Bool → Int → Int → (List (Int × (List (Int × List Int × Bool)) × (List (List Int × Int × List Bool × Bool × Int × Bool × Int × (List (Int × Bool)))) × (List (Int × (List (Int × Int × Bool × List Int)))) × List Int)) → (List (Int × Int × Bool × Int × Int × Int × Bool × List Int)) → Option ((Bool) ⊕ (Bool × Int × (List (Int × (List (Int × List Int × Bool)) × (List (List Int × Int × List Bool × Bool × Int × Bool × Int × (List (Int × Bool)))) × (List (Int × (List (Int × Int × Bool × List Int)))) × List Int)) × (List (Int × Int × Bool × Int × Int × Int × Bool × List Int))))
  | 0, _, _, _, _, _ => none
  | n + 1, p289, p290, p291, p292, p293 =>
    bif (decide (p290 < (6 : Int))) then
      (f_spec_Alone p291 p292 p293 p290).bind fun y294 =>
      bif (!y294) then
        some (.inl false)
      else
        (f_spec_l7Truth p291 p292 p293 p290).bind fun y295 =>
        bif (!(decide ((y295.length : Int) = (4 : Int)))) then
          some (.inl false)
        else
          (f_spec_Sane.l1 N p289 p290 0 p290 true p291 p292 p293 p290 y294 false p291 p292 p293 p290 (y295.length : Int) false p291 p292 p293 y295).bind fun r318 =>
          cs r318 (fun a319 =>
            some (.inl a319)) (fun b320 =>
            f_spec_Sane.l0 n b320.1 (IntKind.wrap .i64 (b320.2.1 + (1 : Int))) b320.2.2.2.2.2.2.2.2.2.2.2.2.2.2.2.2.2.2.2.2.1 b320.2.2.2.2.2.2.2.2.2.2.2.2.2.2.2.2.2.2.2.2.2.1 b320.2.2.2.2.2.2.2.2.2.2.2.2.2.2.2.2.2.2.2.2.2.2.1)
    else
      some (.inr (p289, p291, p292, p293))
noncomputable def f_spec_Sane (x0 : Int) (x1 : List (Int × (List (Int × List Int × Bool)) × (List (List Int × Int × List Bool × Bool × Int × Bool × Int × (List (Int × Bool)))) × (List (Int × (List (Int × Int × Bool × List Int)))) × List Int)) (x2 : List (Int × Int × Bool × Int × Int × Int × Bool × List Int)) : Option (Bool) :=
  (f_spec_Sane.l0 N false 0 x0 x1 x2).bind fun r321 =>
  cs r321 (fun a322 =>
    some a322) (fun b323 =>
    (f_spec_Sane.l2 N b323.1 0 b323.2.1 b323.2.2.1 b323.2.2.2).bind fun r341 =>
    cs r341 (fun a342 =>
      some a342) (fun b343 =>
      some true))
noncomputable def C16 : Con := ⟨[(.B, true, [(.int .i64), (.sl R7), (.sl R8)])], [(false, [.bool])], [(.int .i64), (.sl R7), (.sl R8)], [.bool], fun (p : Int × (List (Int × (List (Int × List Int × Bool)) × (List (List Int × Int × List Bool × Bool × Int × Bool × Int × (List (Int × Bool)))) × (List (Int × (List (Int × Int × Bool × List Int)))) × List Int)) × (List (Int × Int × Bool × Int × Int × Int × Bool × List Int))) => f_spec_Sane p.1 p.2.1 p.2.2⟩
noncomputable def f_spec_Sane.l0.c : LoopCon := ⟨1000, 6, [1, 2, 3], ⟨[(1, .ptr 1000 0), (2, .bool false), (3, .int .i64 0)], [(1000, .box [.int .i64 0, .bor none R7 [], .bor none R8 []])], 1001⟩, [.bool, (.int .i64), (.int .i64), (.sl R7), (.sl R8)], [⟨.ret, [2], ⟨[(2, .bool false)], [], 1000⟩, [.bool]⟩, ⟨.exit 0, [1, 2], ⟨[(1, .ptr 1000 0), (2, .bool false)], [(1000, .box [.int .i64 0, .bor none R7 [], .bor none R8 []])], 1001⟩, [.bool, (.int .i64), (.sl R7), (.sl R8)]⟩], fun (p : Bool × Int × Int × (List (Int × (List (Int × List Int × Bool)) × (List (List Int × Int × List Bool × Bool × Int × Bool × Int × (List (Int × Bool)))) × (List (Int × (List (Int × Int × Bool × List Int)))) × List Int)) × (List (Int × Int × Bool × Int × Int × Int × Bool × List Int))) => f_spec_Sane.l0 N p.1 p.2.1 p.2.2.1 p.2.2.2.1 p.2.2.2.2⟩
noncomputable def f_spec_Sane.l1.c : LoopCon := ⟨1000, 6, [1, 2, 3, 4, 5, 10, 11, 14, 15, 16, 17, 18, 19, 20, 21, 22, 23], ⟨[(1, .ptr 1000 0), (2, .bool false), (3, .int .i64 0), (4, .ref 1001 [] none), (5, .int .i64 0), (10, .int .i64 0), (11, .bool false), (14, .agg [.int .i64 0, .bor none R7 [], .bor none R8 []]), (15, .int .i64 0), (16, .bool false), (17, .bool false), (18, .agg [.int .i64 0, .bor none R7 [], .bor none R8 []]), (19, .int .i64 0), (20, .ref 1001 [] none), (21, .ref 1001 [] none), (22, .int .i64 0), (23, .bool false)], [(1000, .box [.int .i64 0, .bor none R7 [], .bor none R8 []]), (1001, .row R0 [])], 1002⟩, [.bool, (.int .i64), (.int .i64), (.int .i64), .bool, (.int .i64), (.sl R7), (.sl R8), (.int .i64), .bool, .bool, (.int .i64), (.sl R7), (.sl R8), (.int .i64), (.int .i64), .bool, (.int .i64), (.sl R7), (.sl R8), (.sl R0)], [⟨.ret, [2], ⟨[(2, .bool false)], [], 1000⟩, [.bool]⟩, ⟨.exit 2, [1, 2, 3, 4, 5, 10, 11, 14, 15, 16, 17, 18, 19, 20, 21, 22, 23, 24, 25, 26, 27], ⟨[(1, .ptr 1000 0), (2, .bool false), (3, .int .i64 0), (4, .ref 1001 [] none), (5, .int .i64 0), (10, .int .i64 0), (11, .bool false), (14, .agg [.int .i64 0, .bor none R7 [], .bor none R8 []]), (15, .int .i64 0), (16, .bool false), (17, .bool false), (18, .agg [.int .i64 0, .bor none R7 [], .bor none R8 []]), (19, .int .i64 0), (20, .ref 1001 [] none), (21, .ref 1001 [] none), (22, .int .i64 0), (23, .bool false), (24, .int .i64 0), (25, .ptr 1000 0), (26, .int .i64 0), (27, .bool false)], [(1000, .box [.int .i64 0, .bor none R7 [], .bor none R8 []]), (1001, .row R0 [])], 1002⟩, [.bool, (.int .i64), (.int .i64), (.int .i64), .bool, (.int .i64), (.sl R7), (.sl R8), (.int .i64), .bool, .bool, (.int .i64), (.sl R7), (.sl R8), (.int .i64), (.int .i64), .bool, (.int .i64), (.int .i64), .bool, (.int .i64), (.sl R7), (.sl R8), (.sl R0)]⟩], fun (p : Bool × Int × Int × Int × Bool × Int × (List (Int × (List (Int × List Int × Bool)) × (List (List Int × Int × List Bool × Bool × Int × Bool × Int × (List (Int × Bool)))) × (List (Int × (List (Int × Int × Bool × List Int)))) × List Int)) × (List (Int × Int × Bool × Int × Int × Int × Bool × List Int)) × Int × Bool × Bool × Int × (List (Int × (List (Int × List Int × Bool)) × (List (List Int × Int × List Bool × Bool × Int × Bool × Int × (List (Int × Bool)))) × (List (Int × (List (Int × Int × Bool × List Int)))) × List Int)) × (List (Int × Int × Bool × Int × Int × Int × Bool × List Int)) × Int × Int × Bool × Int × (List (Int × (List (Int × List Int × Bool)) × (List (List Int × Int × List Bool × Bool × Int × Bool × Int × (List (Int × Bool)))) × (List (Int × (List (Int × Int × Bool × List Int)))) × List Int)) × (List (Int × Int × Bool × Int × Int × Int × Bool × List Int)) × List Int) => f_spec_Sane.l1 N p.1 p.2.1 p.2.2.1 p.2.2.2.1 p.2.2.2.2.1 p.2.2.2.2.2.1 p.2.2.2.2.2.2.1 p.2.2.2.2.2.2.2.1 p.2.2.2.2.2.2.2.2.1 p.2.2.2.2.2.2.2.2.2.1 p.2.2.2.2.2.2.2.2.2.2.1 p.2.2.2.2.2.2.2.2.2.2.2.1 p.2.2.2.2.2.2.2.2.2.2.2.2.1 p.2.2.2.2.2.2.2.2.2.2.2.2.2.1 p.2.2.2.2.2.2.2.2.2.2.2.2.2.2.1 p.2.2.2.2.2.2.2.2.2.2.2.2.2.2.2.1 p.2.2.2.2.2.2.2.2.2.2.2.2.2.2.2.2.1 p.2.2.2.2.2.2.2.2.2.2.2.2.2.2.2.2.2.1 p.2.2.2.2.2.2.2.2.2.2.2.2.2.2.2.2.2.2.1 p.2.2.2.2.2.2.2.2.2.2.2.2.2.2.2.2.2.2.2.1 p.2.2.2.2.2.2.2.2.2.2.2.2.2.2.2.2.2.2.2.2⟩
noncomputable def f_spec_Sane.l2.c : LoopCon := ⟨1000, 6, [1, 2, 7], ⟨[(1, .ptr 1000 0), (2, .bool false), (7, .int .i64 0)], [(1000, .box [.int .i64 0, .bor none R7 [], .bor none R8 []])], 1001⟩, [.bool, (.int .i64), (.int .i64), (.sl R7), (.sl R8)], [⟨.ret, [2], ⟨[(2, .bool false)], [], 1000⟩, [.bool]⟩, ⟨.exit 4, [2], ⟨[(2, .bool false)], [], 1000⟩, [.bool]⟩], fun (p : Bool × Int × Int × (List (Int × (List (Int × List Int × Bool)) × (List (List Int × Int × List Bool × Bool × Int × Bool × Int × (List (Int × Bool)))) × (List (Int × (List (Int × Int × Bool × List Int)))) × List Int)) × (List (Int × Int × Bool × Int × Int × Int × Bool × List Int))) => f_spec_Sane.l2 N p.1 p.2.1 p.2.2.1 p.2.2.2.1 p.2.2.2.2⟩
noncomputable def f_spec_Sane.l3.c : LoopCon := ⟨1000, 6, [1, 2, 7, 8, 49, 50, 51, 52], ⟨[(1, .ptr 1000 0), (2, .bool false), (7, .int .i64 0), (8, .int .i64 0), (49, .int .i64 0), (50, .ptr 1000 0), (51, .int .i64 0), (52, .bool false)], [(1000, .box [.int .i64 0, .bor none R7 [], .bor none R8 []])], 1001⟩, [.bool, (.int .i64), (.int .i64), (.int .i64), (.int .i64), .bool, (.int .i64), (.sl R7), (.sl R8)], [⟨.ret, [2], ⟨[(2, .bool false)], [], 1000⟩, [.bool]⟩, ⟨.exit 6, [1, 2, 7, 8, 49, 50, 51, 52, 55, 56, 57, 58], ⟨[(1, .ptr 1000 0), (2, .bool false), (7, .int .i64 0), (8, .int .i64 0), (49, .int .i64 0), (50, .ptr 1000 0), (51, .int .i64 0), (52, .bool false), (55, .int .i64 0), (56, .ptr 1000 0), (57, .int .i64 0), (58, .bool false)], [(1000, .box [.int .i64 0, .bor none R7 [], .bor none R8 []])], 1001⟩, [.bool, (.int .i64), (.int .i64), (.int .i64), (.int .i64), .bool, (.int .i64), (.int .i64), .bool, (.int .i64), (.sl R7), (.sl R8)]⟩], fun (p : Bool × Int × Int × Int × Int × Bool × Int × (List (Int × (List (Int × List Int × Bool)) × (List (List Int × Int × List Bool × Bool × Int × Bool × Int × (List (Int × Bool)))) × (List (Int × (List (Int × Int × Bool × List Int)))) × List Int)) × (List (Int × Int × Bool × Int × Int × Int × Bool × List Int))) => f_spec_Sane.l3 N p.1 p.2.1 p.2.2.1 p.2.2.2.1 p.2.2.2.2.1 p.2.2.2.2.2.1 p.2.2.2.2.2.2.1 p.2.2.2.2.2.2.2.1 p.2.2.2.2.2.2.2.2⟩
noncomputable abbrev K16 : Cons := [(12, C12), (69, C69), (70, C70)]
noncomputable abbrev L16 : List (Nat × Loops) := [(16, [(2, f_spec_Sane.l0.c), (10, f_spec_Sane.l1.c), (16, f_spec_Sane.l2.c), (19, f_spec_Sane.l3.c)])]
abbrev Q16 : List (Nat × List (Int × Nat) × Nat) := []
noncomputable abbrev X16 : Nat → Ctx := ctxOf tb K16 L16 Q16
theorem f_spec_Sane.l0.ok : ∀ n p, (fun (p : Bool × Int × Int × (List (Int × (List (Int × List Int × Bool)) × (List (List Int × Int × List Bool × Bool × Int × Bool × Int × (List (Int × Bool)))) × (List (Int × (List (Int × Int × Bool × List Int)))) × List Int)) × (List (Int × Int × Bool × Int × Int × Int × Bool × List Int))) => f_spec_Sane.l0 n p.1 p.2.1 p.2.2.1 p.2.2.2.1 p.2.2.2.2) p = iterD (roundOf fs X16 6 16 2 false f_spec_Sane.l0.c) n p :=
  iter_of (l := fun n => fun (p : Bool × Int × Int × (List (Int × (List (Int × List Int × Bool)) × (List (List Int × Int × List Bool × Bool × Int × Bool × Int × (List (Int × Bool)))) × (List (Int × (List (Int × Int × Bool × List Int)))) × List Int)) × (List (Int × Int × Bool × Int × Int × Int × Bool × List Int))) => f_spec_Sane.l0 n p.1 p.2.1 p.2.2.1 p.2.2.2.1 p.2.2.2.2) (fun _ => rfl) (fun n p => by kernel_rfl)
theorem f_spec_Sane.l1.ok : ∀ n p, (fun (p : Bool × Int × Int × Int × Bool × Int × (List (Int × (List (Int × List Int × Bool)) × (List (List Int × Int × List Bool × Bool × Int × Bool × Int × (List (Int × Bool)))) × (List (Int × (List (Int × Int × Bool × List Int)))) × List Int)) × (List (Int × Int × Bool × Int × Int × Int × Bool × List Int)) × Int × Bool × Bool × Int × (List (Int × (List (Int × List Int × Bool)) × (List (List Int × Int × List Bool × Bool × Int × Bool × Int × (List (Int × Bool)))) × (List (Int × (List (Int × Int × Bool × List Int)))) × List Int)) × (List (Int × Int × Bool × Int × Int × Int × Bool × List Int)) × Int × Int × Bool × Int × (List (Int × (List (Int × List Int × Bool)) × (List (List Int × Int × List Bool × Bool × Int × Bool × Int × (List (Int × Bool)))) × (List (Int × (List (Int × Int × Bool × List Int)))) × List Int)) × (List (Int × Int × Bool × Int × Int × Int × Bool × List Int)) × List Int) => f_spec_Sane.l1 n p.1 p.2.1 p.2.2.1 p.2.2.2.1 p.2.2.2.2.1 p.2.2.2.2.2.1 p.2.2.2.2.2.2.1 p.2.2.2.2.2.2.2.1 p.2.2.2.2.2.2.2.2.1 p.2.2.2.2.2.2.2.2.2.1 p.2.2.2.2.2.2.2.2.2.2.1 p.2.2.2.2.2.2.2.2.2.2.2.1 p.2.2.2.2.2.2.2.2.2.2.2.2.1 p.2.2.2.2.2.2.2.2.2.2.2.2.2.1 p.2.2.2.2.2.2.2.2.2.2.2.2.2.2.1 p.2.2.2.2.2.2.2.2.2.2.2.2.2.2.2.1 p.2.2.2.2.2.2.2.2.2.2.2.2.2.2.2.2.1 p.2.2.2.2.2.2.2.2.2.2.2.2.2.2.2.2.2.1 p.2.2.2.2.2.2.2.2.2.2.2.2.2.2.2.2.2.2.1 p.2.2.2.2.2.2.2.2.2.2.2.2.2.2.2.2.2.2.2.1 p.2.2.2.2.2.2.2.2.2.2.2.2.2.2.2.2.2.2.2.2) p = iterD (roundOf fs X16 6 16 10 false f_spec_Sane.l1.c) n p :=
  iter_of (l := fun n => fun (p : Bool × Int × Int × Int × Bool × Int × (List (Int × (List (Int × List Int × Bool)) × (List (List Int × Int × List Bool × Bool × Int × Bool × Int × (List (Int × Bool)))) × (List (Int × (List (Int × Int × Bool × List Int)))) × List Int)) × (List (Int × Int × Bool × Int × Int × Int × Bool × List Int)) × Int × Bool × Bool × Int × (List (Int × (List (Int × List Int × Bool)) × (List (List Int × Int × List Bool × Bool × Int × Bool × Int × (List (Int × Bool)))) × (List (Int × (List (Int × Int × Bool × List Int)))) × List Int)) × (List (Int × Int × Bool × Int × Int × Int × Bool × List Int)) × Int × Int × Bool × Int × (List (Int × (List (Int × List Int × Bool)) × (List (List Int × Int × List Bool × Bool × Int × Bool × Int × (List (Int × Bool)))) × (List (Int × (List (Int × Int × Bool × List Int)))) × List Int)) × (List (Int × Int × Bool × Int × Int × Int × Bool × List Int)) × List Int) => f_spec_Sane.l1 n p.1 p.2.1 p.2.2.1 p.2.2.2.1 p.2.2.2.2.1 p.2.2.2.2.2.1 p.2.2.2.2.2.2.1 p.2.2.2.2.2.2.2.1 p.2.2.2.2.2.2.2.2.1 p.2.2.2.2.2.2.2.2.2.1 p.2.2.2.2.2.2.2.2.2.2.1 p.2.2.2.2.2.2.2.2.2.2.2.1 p.2.2.2.2.2.2.2.2.2.2.2.2.1 p.2.2.2.2.2.2.2.2.2.2.2.2.2.1 p.2.2.2.2.2.2.2.2.2.2.2.2.2.2.1 p.2.2.2.2.2.2.2.2.2.2.2.2.2.2.2.1 p.2.2.2.2.2.2.2.2.2.2.2.2.2.2.2.2.1 p.2.2.2.2.2.2.2.2.2.2.2.2.2.2.2.2.2.1 p.2.2.2.2.2.2.2.2.2.2.2.2.2.2.2.2.2.2.1 p.2.2.2.2.2.2.2.2.2.2.2.2.2.2.2.2.2.2.2.1 p.2.2.2.2.2.2.2.2.2.2.2.2.2.2.2.2.2.2.2.2) (fun _ => rfl) (fun n p => by kernel_rfl)
theorem f_spec_Sane.l2.ok : ∀ n p, (fun (p : Bool × Int × Int × (List (Int × (List (Int × List Int × Bool)) × (List (List Int × Int × List Bool × Bool × Int × Bool × Int × (List (Int × Bool)))) × (List (Int × (List (Int × Int × Bool × List Int)))) × List Int)) × (List (Int × Int × Bool × Int × Int × Int × Bool × List Int))) => f_spec_Sane.l2 n p.1 p.2.1 p.2.2.1 p.2.2.2.1 p.2.2.2.2) p = iterD (roundOf fs X16 6 16 16 false f_spec_Sane.l2.c) n p :=
  iter_of (l := fun n => fun (p : Bool × Int × Int × (List (Int × (List (Int × List Int × Bool)) × (List (List Int × Int × List Bool × Bool × Int × Bool × Int × (List (Int × Bool)))) × (List (Int × (List (Int × Int × Bool × List Int)))) × List Int)) × (List (Int × Int × Bool × Int × Int × Int × Bool × List Int))) => f_spec_Sane.l2 n p.1 p.2.1 p.2.2.1 p.2.2.2.1 p.2.2.2.2) (fun _ => rfl) (fun n p => by kernel_rfl)
theorem f_spec_Sane.l3.ok : ∀ n p, (fun (p : Bool × Int × Int × Int × Int × Bool × Int × (List (Int × (List (Int × List Int × Bool)) × (List (List Int × Int × List Bool × Bool × Int × Bool × Int × (List (Int × Bool)))) × (List (Int × (List (Int × Int × Bool × List Int)))) × List Int)) × (List (Int × Int × Bool × Int × Int × Int × Bool × List Int))) => f_spec_Sane.l3 n p.1 p.2.1 p.2.2.1 p.2.2.2.1 p.2.2.2.2.1 p.2.2.2.2.2.1 p.2.2.2.2.2.2.1 p.2.2.2.2.2.2.2.1 p.2.2.2.2.2.2.2.2) p = iterD (roundOf fs X16 6 16 19 false f_spec_Sane.l3.c) n p :=
  iter_of (l := fun n => fun (p : Bool × Int × Int × Int × Int × Bool × Int × (List (Int × (List (Int × List Int × Bool)) × (List (List Int × Int × List Bool × Bool × Int × Bool × Int × (List (Int × Bool)))) × (List (Int × (List (Int × Int × Bool × List Int)))) × List Int)) × (List (Int × Int × Bool × Int × Int × Int × Bool × List Int))) => f_spec_Sane.l3 n p.1 p.2.1 p.2.2.1 p.2.2.2.1 p.2.2.2.2.1 p.2.2.2.2.2.1 p.2.2.2.2.2.2.1 p.2.2.2.2.2.2.2.1 p.2.2.2.2.2.2.2.2) (fun _ => rfl) (fun n p => by kernel_rfl)
theorem E16 : ∀ x, funRun fs X16 6 16 C16 x = C16.fn x := fun x => by kernel_rfl
theorem B16 : ConB Tryz.prog 16 C16 := ConB.make FS MIX TY (cons := K16) (L := L16) (ptrs := Q16) ⟨S12, S69, S70, trivial⟩ trivial ⟨⟨⟨N, fun p => f_spec_Sane.l0.ok N p⟩, ⟨N, fun p => f_spec_Sane.l1.ok N p⟩, ⟨N, fun p => f_spec_Sane.l2.ok N p⟩, ⟨N, fun p => f_spec_Sane.l3.ok N p⟩, trivial⟩, trivial⟩ rfl rfl E16
theorem S16 : ConS Tryz.prog 16 C16 := B16.call rfl
/-! impl.from: function 140 -/
noncomputable def f_impl_from (x0 : Int) (x1 : Int) (x2 : Int) : Option (Bool) :=
  bif (decide (x1 ≤ x0)) then
    some (decide (x0 ≤ x2))
  else
    some false
noncomputable def C140 : Con := ⟨[(.B, false, [(.int .i64)]), (.B, false, [(.int .i64)]), (.B, false, [(.int .i64)])], [(false, [.bool])], [(.int .i64), (.int .i64), (.int .i64)], [.bool], fun (p : Int × Int × Int) => f_impl_from p.1 p.2.1 p.2.2⟩
noncomputable abbrev K140 : Cons := []
noncomputable abbrev L140 : List (Nat × Loops) := []
abbrev Q140 : List (Nat × List (Int × Nat) × Nat) := []
noncomputable abbrev X140 : Nat → Ctx := ctxOf tb K140 L140 Q140
theorem E140 : ∀ x, funRun fs X140 6 140 C140 x = C140.fn x := fun x => by kernel_rfl
theorem B140 : ConB Tryz.prog 140 C140 := ConB.make FS MIX TY (cons := K140) (L := L140) (ptrs := Q140) trivial trivial trivial rfl rfl E140
theorem S140 : ConS Tryz.prog 140 C140 := B140.call rfl
/-! impl.isOf: function 100 -/
noncomputable def f_impl_isOf (x0 : Int) (x1 : Int) : Option (Bool) :=
  (f_impl_from x1 1 4).bind fun y344 =>
  bif y344 then
    (f_impl_from x0 0 (IntKind.wrap .i64 (x1 - (1 : Int)))).bind fun y345 =>
    some y345
  else
    some false
noncomputable def C100 : Con := ⟨[(.B, false, [(.int .i64)]), (.B, false, [(.int .i64)])], [(false, [.bool])], [(.int .i64), (.int .i64)], [.bool], fun (p : Int × Int) => f_impl_isOf p.1 p.2⟩
noncomputable abbrev K100 : Cons := [(140, C140)]
noncomputable abbrev L100 : List (Nat × Loops) := []
abbrev Q100 : List (Nat × List (Int × Nat) × Nat) := []
noncomputable abbrev X100 : Nat → Ctx := ctxOf tb K100 L100 Q100
theorem E100 : ∀ x, funRun fs X100 6 100 C100 x = C100.fn x := fun x => by kernel_rfl
theorem B100 : ConB Tryz.prog 100 C100 := ConB.make FS MIX TY (cons := K100) (L := L100) (ptrs := Q100) ⟨S140, trivial⟩ trivial trivial rfl rfl E100
theorem S100 : ConS Tryz.prog 100 C100 := B100.call rfl
/-! impl.isWord: function 212 -/
noncomputable def f_impl_isWord (x0 : Int) : Option (Bool) :=
  (f_impl_from x0 0 65535).bind fun y346 =>
  some y346
noncomputable def C212 : Con := ⟨[(.B, false, [(.int .i64)])], [(false, [.bool])], [(.int .i64)], [.bool], fun (p : Int) => f_impl_isWord p⟩
noncomputable abbrev K212 : Cons := [(140, C140)]
noncomputable abbrev L212 : List (Nat × Loops) := []
abbrev Q212 : List (Nat × List (Int × Nat) × Nat) := []
noncomputable abbrev X212 : Nat → Ctx := ctxOf tb K212 L212 Q212
theorem E212 : ∀ x, funRun fs X212 6 212 C212 x = C212.fn x := fun x => by kernel_rfl
theorem B212 : ConB Tryz.prog 212 C212 := ConB.make FS MIX TY (cons := K212) (L := L212) (ptrs := Q212) ⟨S140, trivial⟩ trivial trivial rfl rfl E212
theorem S212 : ConS Tryz.prog 212 C212 := B212.call rfl
/-! impl.wordsOk$1: function 211 -/
noncomputable def f_impl_wordsOk_1 (x0 : Int) : Option (Bool) :=
  (f_impl_isWord x0).bind fun y347 =>
  some (!y347)
noncomputable def C211 : Con := ⟨[(.B, false, [(.int .i64)])], [(false, [.bool])], [(.int .i64)], [.bool], fun (p : Int) => f_impl_wordsOk_1 p⟩
noncomputable abbrev K211 : Cons := [(212, C212)]
noncomputable abbrev L211 : List (Nat × Loops) := []
abbrev Q211 : List (Nat × List (Int × Nat) × Nat) := []
noncomputable abbrev X211 : Nat → Ctx := ctxOf tb K211 L211 Q211
theorem E211 : ∀ x, funRun fs X211 6 211 C211 x = C211.fn x := fun x => by kernel_rfl
theorem B211 : ConB Tryz.prog 211 C211 := ConB.make FS MIX TY (cons := K211) (L := L211) (ptrs := Q211) ⟨S212, trivial⟩ trivial trivial rfl rfl E211
theorem S211 : ConS Tryz.prog 211 C211 := B211.call rfl
/-! impl.wordsOk: function 179 -/
noncomputable def f_impl_wordsOk.l0 : Nat → (List Int) → Int → Int → Int → Option ((Int) ⊕ (Int))
  | 0, _, _, _, _ => none
  | n + 1, p348, p349, p350, p351 =>
    bif (decide (p351 < p350)) then
      bif ((decide ((0 : Int) ≤ p351)) && (decide (p351 < (p348.length : Int)))) then
      (f_impl_wordsOk_1 (p348.getD p351.toNat 0)).bind fun y352 =>
      bif y352 then
        some (.inl p351)
      else
        f_impl_wordsOk.l0 n p348 p349 p350 (IntKind.wrap .i64 (p351 + (1 : Int)))
      else none
    else
      some (.inr p349)
noncomputable def f_impl_wordsOk (x0 : List Int) (x1 : Int) : Option (Bool) :=
  bif (decide ((x0.length : Int) = x1)) then
    (f_impl_wordsOk.l0 N x0 0 (x0.length : Int) 0).bind fun r353 =>
    cs r353 (fun a354 =>
      some (!(decide ((0 : Int) ≤ a354)))) (fun b355 =>
      some true)
  else
    some false
noncomputable def C179 : Con := ⟨[(.B, false, [(.sl R0)]), (.B, false, [(.int .i64)])], [(false, [.bool])], [(.sl R0), (.int .i64)], [.bool], fun (p : List Int × Int) => f_impl_wordsOk p.1 p.2⟩
noncomputable def f_impl_wordsOk.l0.c : LoopCon := ⟨1274, 4, [0, 1, 4, 7, 8], ⟨[(0, .bor none R0 []), (1, .func 211 []), (4, .int .i64 0), (7, .int .i64 0), (8, .int .i64 0)], [], 1274⟩, [(.sl R0), (.int .i64), (.int .i64), (.int .i64)], [⟨.ret, [4], ⟨[(4, .int .i64 0)], [], 1274⟩, [(.int .i64)]⟩, ⟨.exit 0, [4], ⟨[(4, .int .i64 0)], [], 1274⟩, [(.int .i64)]⟩], fun (p : List Int × Int × Int × Int) => f_impl_wordsOk.l0 N p.1 p.2.1 p.2.2.1 p.2.2.2⟩
noncomputable abbrev K179 : Cons := [(211, C211)]
noncomputable abbrev L179 : List (Nat × Loops) := [(222, [(2, f_impl_wordsOk.l0.c)])]
abbrev Q179 : List (Nat × List (Int × Nat) × Nat) := []
noncomputable abbrev X179 : Nat → Ctx := ctxOf tb K179 L179 Q179
theorem f_impl_wordsOk.l0.ok : ∀ n p, (fun (p : List Int × Int × Int × Int) => f_impl_wordsOk.l0 n p.1 p.2.1 p.2.2.1 p.2.2.2) p = iterD (roundOf fs X179 4 222 2 true f_impl_wordsOk.l0.c) n p :=
  iter_of (l := fun n => fun (p : List Int × Int × Int × Int) => f_impl_wordsOk.l0 n p.1 p.2.1 p.2.2.1 p.2.2.2) (fun _ => rfl) (fun n p => by kernel_rfl)
theorem E179 : ∀ x, funRun fs X179 6 179 C179 x = C179.fn x := fun x => by kernel_rfl
theorem B179 : ConB Tryz.prog 179 C179 := ConB.make FS MIX TY (cons := K179) (L := L179) (ptrs := Q179) ⟨S211, trivial⟩ trivial ⟨⟨⟨N, fun p => f_impl_wordsOk.l0.ok N p⟩, trivial⟩, trivial⟩ rfl rfl E179
theorem S179 : ConS Tryz.prog 179 C179 := B179.call rfl
/-! impl.FrameOk: function 120 -/
noncomputable def f_impl_FrameOk (x0 : Int) (x1 : List Int) (x2 : Bool) : Option (Bool) :=
  bif (decide (x0 = (0 : Int))) then
    some (decide ((x1.length : Int) = (0 : Int)))
  else
    bif (decide (x0 = (1 : Int))) then
      (f_impl_wordsOk x1 4).bind fun y356 =>
      some y356
    else
      bif (decide (x0 = (2 : Int))) then
        (f_impl_wordsOk x1 4).bind fun y357 =>
        some y357
      else
        some false
noncomputable def C120 : Con := ⟨[(.B, true, [(.int .i64), (.sl R0), .bool])], [(false, [.bool])], [(.int .i64), (.sl R0), .bool], [.bool], fun (p : Int × List Int × Bool) => f_impl_FrameOk p.1 p.2.1 p.2.2⟩
noncomputable abbrev K120 : Cons := [(179, C179)]
noncomputable abbrev L120 : List (Nat × Loops) := []
abbrev Q120 : List (Nat × List (Int × Nat) × Nat) := []
noncomputable abbrev X120 : Nat → Ctx := ctxOf tb K120 L120 Q120
theorem E120 : ∀ x, funRun fs X120 6 120 C120 x = C120.fn x := fun x => by kernel_rfl
theorem B120 : ConB Tryz.prog 120 C120 := ConB.make FS MIX TY (cons := K120) (L := L120) (ptrs := Q120) ⟨S179, trivial⟩ trivial trivial rfl rfl E120
theorem S120 : ConS Tryz.prog 120 C120 := B120.call rfl
/-! impl.NodeOk$1: function 119 -/
noncomputable def f_impl_NodeOk_1 (x0 : Int) (x1 : List Int) (x2 : Bool) : Option (Bool) :=
  (f_impl_FrameOk x0 x1 x2).bind fun y358 =>
  some (!y358)
noncomputable def C119 : Con := ⟨[(.B, true, [(.int .i64), (.sl R0), .bool])], [(false, [.bool])], [(.int .i64), (.sl R0), .bool], [.bool], fun (p : Int × List Int × Bool) => f_impl_NodeOk_1 p.1 p.2.1 p.2.2⟩
noncomputable abbrev K119 : Cons := [(120, C120)]
noncomputable abbrev L119 : List (Nat × Loops) := []
abbrev Q119 : List (Nat × List (Int × Nat) × Nat) := []
noncomputable abbrev X119 : Nat → Ctx := ctxOf tb K119 L119 Q119
theorem E119 : ∀ x, funRun fs X119 6 119 C119 x = C119.fn x := fun x => by kernel_rfl
theorem B119 : ConB Tryz.prog 119 C119 := ConB.make FS MIX TY (cons := K119) (L := L119) (ptrs := Q119) ⟨S120, trivial⟩ trivial trivial rfl rfl E119
theorem S119 : ConS Tryz.prog 119 C119 := B119.call rfl
/-! impl.HomeOk$1: function 188 -/
noncomputable def f_impl_HomeOk_1 (x0 : Int) (x1 : Bool) (x2 : Int) : Option (Bool) :=
  (f_impl_isOf x0 x2).bind fun y359 =>
  some (!y359)
noncomputable def C188 : Con := ⟨[(.B, true, [(.int .i64), .bool]), (.Q, false, [(.int .i64)])], [(false, [.bool])], [(.int .i64), .bool, (.int .i64)], [.bool], fun (p : Int × Bool × Int) => f_impl_HomeOk_1 p.1 p.2.1 p.2.2⟩
noncomputable abbrev K188 : Cons := [(100, C100)]
noncomputable abbrev L188 : List (Nat × Loops) := []
abbrev Q188 : List (Nat × List (Int × Nat) × Nat) := []
noncomputable abbrev X188 : Nat → Ctx := ctxOf tb K188 L188 Q188
theorem E188 : ∀ x, funG fs X188 6 188 C188 x = C188.fn x := fun x => by kernel_rfl
theorem B188 : ConG Tryz.prog 188 C188 := ConG.make FS MIX TY (cons := K188) (L := L188) (ptrs := Q188) ⟨S100, trivial⟩ trivial trivial rfl (by kernel_rfl) E188
theorem S188 : ConS Tryz.prog 188 C188 := B188.call (by kernel_rfl)
/-! impl.HomeOk: function 123 -/
noncomputable def f_impl_HomeOk.l0 : Nat → (List (Int × Bool)) → Int → Int → Int → (List Int) → Int → (List Bool) → Bool → Int → Bool → Int → (List (Int × Bool)) → Int → Option ((Int × List Int × Int × List Bool × Bool × Int × Bool × Int × (List (Int × Bool)) × Int) ⊕ (Int × List Int × Int × List Bool × Bool × Int × Bool × Int × (List (Int × Bool)) × Int))
  | 0, _, _, _, _, _, _, _, _, _, _, _, _, _ => none
  | n + 1, p365, p366, p367, p368, p369, p370, p371, p372, p373, p374, p375, p376, p377 =>
    bif (decide (p368 < p367)) then
      bif ((decide ((0 : Int) ≤ p368)) && (decide (p368 < (p365.length : Int)))) then
      (f_impl_HomeOk_1 ((p365.getD p368.toNat (0, false)).1) ((p365.getD p368.toNat (0, false)).2) p377).bind fun y378 =>
      bif y378 then
        some (.inl (p368, p369, p370, p371, p372, p373, p374, p375, p376, p377))
      else
        f_impl_HomeOk.l0 n p365 p366 p367 (IntKind.wrap .i64 (p368 + (1 : Int))) p369 p370 p371 p372 p373 p374 p375 p376 p377
      else none
    else
      some (.inr (p366, p369, p370, p371, p372, p373, p374, p375, p376, p377))
noncomputable def f_impl_HomeOk (x0 : List Int) (x1 : Int) (x2 : List Bool) (x3 : Bool) (x4 : Int) (x5 : Bool) (x6 : Int) (x7 : List (Int × Bool)) (x8 : Int) : Option (Bool) :=
  (f_impl_from x8 1 4).bind fun y360 =>
  bif y360 then
    (f_impl_wordsOk x0 4).bind fun y361 =>
    bif y361 then
      (f_impl_from x1 (-1) (IntKind.wrap .i64 (x8 - (1 : Int)))).bind fun y362 =>
      bif y362 then
        bif (decide ((x2.length : Int) = x8)) then
          (f_impl_isOf x4 x8).bind fun y363 =>
          bif y363 then
            (f_impl_from x6 0 x8).bind fun y364 =>
            bif y364 then
              bif (decide ((x7.length : Int) ≤ (12 : Int))) then
                (f_impl_HomeOk.l0 N x7 0 (x7.length : Int) 0 x0 x1 x2 x3 x4 x5 x6 x7 x8).bind fun r379 =>
                cs r379 (fun a380 =>
                  some (!(decide ((0 : Int) ≤ a380.1)))) (fun b381 =>
                  some true)
              else
                some false
            else
              some false
          else
            some false
        else
          some false
      else
        some false
    else
      some false
  else
    some false
noncomputable def C123 : Con := ⟨[(.B, true, [(.sl R0), (.int .i64), (.sl R2), .bool, (.int .i64), .bool, (.int .i64), (.sl R3)]), (.B, false, [(.int .i64)])], [(false, [.bool])], [(.sl R0), (.int .i64), (.sl R2), .bool, (.int .i64), .bool, (.int .i64), (.sl R3), (.int .i64)], [.bool], fun (p : List Int × Int × List Bool × Bool × Int × Bool × Int × (List (Int × Bool)) × Int) => f_impl_HomeOk p.1 p.2.1 p.2.2.1 p.2.2.2.1 p.2.2.2.2.1 p.2.2.2.2.2.1 p.2.2.2.2.2.2.1 p.2.2.2.2.2.2.2.1 p.2.2.2.2.2.2.2.2⟩
noncomputable def f_impl_HomeOk.l0.c : LoopCon := ⟨1921, 4, [0, 1, 4, 7, 8], ⟨[(0, .bor none R3 []), (1, .func 188 [.ptr 1025 0]), (4, .int .i64 0), (7, .int .i64 0), (8, .int .i64 0)], [(1009, .box [.bor (some 0) R0 [], .int .i64 0, .bor (some 2) R2 [], .bool false, .int .i64 0, .bool false, .int .i64 0, .bor (some 7) R3 []]), (1025, .box [.int .i64 0])], 1921⟩, [(.sl R3), (.int .i64), (.int .i64), (.int .i64), (.sl R0), (.int .i64), (.sl R2), .bool, (.int .i64), .bool, (.int .i64), (.sl R3), (.int .i64)], [⟨.ret, [4], ⟨[(4, .int .i64 0)], [(1009, .box [.bor (some 0) R0 [], .int .i64 0, .bor (some 2) R2 [], .bool false, .int .i64 0, .bool false, .int .i64 0, .bor (some 7) R3 []]), (1025, .box [.int .i64 0])], 1921⟩, [(.int .i64), (.sl R0), (.int .i64), (.sl R2), .bool, (.int .i64), .bool, (.int .i64), (.sl R3), (.int .i64)]⟩, ⟨.exit 0, [4], ⟨[(4, .int .i64 0)], [(1009, .box [.bor (some 0) R0 [], .int .i64 0, .bor (some 2) R2 [], .bool false, .int .i64 0, .bool false, .int .i64 0, .bor (some 7) R3 []]), (1025, .box [.int .i64 0])], 1921⟩, [(.int .i64), (.sl R0), (.int .i64), (.sl R2), .bool, (.int .i64), .bool, (.int .i64), (.sl R3), (.int .i64)]⟩], fun (p : (List (Int × Bool)) × Int × Int × Int × List Int × Int × List Bool × Bool × Int × Bool × Int × (List (Int × Bool)) × Int) => f_impl_HomeOk.l0 N p.1 p.2.1 p.2.2.1 p.2.2.2.1 p.2.2.2.2.1 p.2.2.2.2.2.1 p.2.2.2.2.2.2.1 p.2.2.2.2.2.2.2.1 p.2.2.2.2.2.2.2.2.1 p.2.2.2.2.2.2.2.2.2.1 p.2.2.2.2.2.2.2.2.2.2.1 p.2.2.2.2.2.2.2.2.2.2.2.1 p.2.2.2.2.2.2.2.2.2.2.2.2⟩
noncomputable abbrev K123 : Cons := [(100, C100), (140, C140), (179, C179), (188, C188)]
noncomputable abbrev L123 : List (Nat × Loops) := [(217, [(2, f_impl_HomeOk.l0.c)])]
abbrev Q123 : List (Nat × List (Int × Nat) × Nat) := []
noncomputable abbrev X123 : Nat → Ctx := ctxOf tb K123 L123 Q123
theorem f_impl_HomeOk.l0.ok : ∀ n p, (fun (p : (List (Int × Bool)) × Int × Int × Int × List Int × Int × List Bool × Bool × Int × Bool × Int × (List (Int × Bool)) × Int) => f_impl_HomeOk.l0 n p.1 p.2.1 p.2.2.1 p.2.2.2.1 p.2.2.2.2.1 p.2.2.2.2.2.1 p.2.2.2.2.2.2.1 p.2.2.2.2.2.2.2.1 p.2.2.2.2.2.2.2.2.1 p.2.2.2.2.2.2.2.2.2.1 p.2.2.2.2.2.2.2.2.2.2.1 p.2.2.2.2.2.2.2.2.2.2.2.1 p.2.2.2.2.2.2.2.2.2.2.2.2) p = iterD (roundOf fs X123 4 217 2 true f_impl_HomeOk.l0.c) n p :=
  iter_of (l := fun n => fun (p : (List (Int × Bool)) × Int × Int × Int × List Int × Int × List Bool × Bool × Int × Bool × Int × (List (Int × Bool)) × Int) => f_impl_HomeOk.l0 n p.1 p.2.1 p.2.2.1 p.2.2.2.1 p.2.2.2.2.1 p.2.2.2.2.2.1 p.2.2.2.2.2.2.1 p.2.2.2.2.2.2.2.1 p.2.2.2.2.2.2.2.2.1 p.2.2.2.2.2.2.2.2.2.1 p.2.2.2.2.2.2.2.2.2.2.1 p.2.2.2.2.2.2.2.2.2.2.2.1 p.2.2.2.2.2.2.2.2.2.2.2.2) (fun _ => rfl) (fun n p => by kernel_rfl)
theorem E123 : ∀ x, funRun fs X123 6 123 C123 x = C123.fn x := fun x => by kernel_rfl
theorem B123 : ConB Tryz.prog 123 C123 := ConB.make FS MIX TY (cons := K123) (L := L123) (ptrs := Q123) ⟨S100, S140, S179, S188, trivial⟩ trivial ⟨⟨⟨N, fun p => f_impl_HomeOk.l0.ok N p⟩, trivial⟩, trivial⟩ rfl rfl E123
theorem S123 : ConS Tryz.prog 123 C123 := B123.call rfl
/-! impl.NodeOk$2: function 122 -/
noncomputable def f_impl_NodeOk_2 (x0 : List Int) (x1 : Int) (x2 : List Bool) (x3 : Bool) (x4 : Int) (x5 : Bool) (x6 : Int) (x7 : List (Int × Bool)) (x8 : Int) : Option (Bool) :=
  (f_impl_HomeOk x0 x1 x2 x3 x4 x5 x6 x7 x8).bind fun y382 =>
  some (!y382)
noncomputable def C122 : Con := ⟨[(.B, true, [(.sl R0), (.int .i64), (.sl R2), .bool, (.int .i64), .bool, (.int .i64), (.sl R3)]), (.Q, false, [(.int .i64)])], [(false, [.bool])], [(.sl R0), (.int .i64), (.sl R2), .bool, (.int .i64), .bool, (.int .i64), (.sl R3), (.int .i64)], [.bool], fun (p : List Int × Int × List Bool × Bool × Int × Bool × Int × (List (Int × Bool)) × Int) => f_impl_NodeOk_2 p.1 p.2.1 p.2.2.1 p.2.2.2.1 p.2.2.2.2.1 p.2.2.2.2.2.1 p.2.2.2.2.2.2.1 p.2.2.2.2.2.2.2.1 p.2.2.2.2.2.2.2.2⟩
noncomputable abbrev K122 : Cons := [(123, C123)]
noncomputable abbrev L122 : List (Nat × Loops) := []
abbrev Q122 : List (Nat × List (Int × Nat) × Nat) := []
noncomputable abbrev X122 : Nat → Ctx := ctxOf tb K122 L122 Q122
theorem E122 : ∀ x, funG fs X122 6 122 C122 x = C122.fn x := fun x => by kernel_rfl
theorem B122 : ConG Tryz.prog 122 C122 := ConG.make FS MIX TY (cons := K122) (L := L122) (ptrs := Q122) ⟨S123, trivial⟩ trivial trivial rfl (by kernel_rfl) E122
theorem S122 : ConS Tryz.prog 122 C122 := B122.call (by kernel_rfl)
/-! impl.isSeq: function 129 -/
noncomputable def f_impl_isSeq (x0 : Int) : Option (Bool) :=
  (f_impl_from x0 0 100000).bind fun y383 =>
  some y383
noncomputable def C129 : Con := ⟨[(.B, false, [(.int .i64)])], [(false, [.bool])], [(.int .i64)], [.bool], fun (p : Int) => f_impl_isSeq p⟩
noncomputable abbrev K129 : Cons := [(140, C140)]
noncomputable abbrev L129 : List (Nat × Loops) := []
abbrev Q129 : List (Nat × List (Int × Nat) × Nat) := []
noncomputable abbrev X129 : Nat → Ctx := ctxOf tb K129 L129 Q129
theorem E129 : ∀ x, funRun fs X129 6 129 C129 x = C129.fn x := fun x => by kernel_rfl
theorem B129 : ConB Tryz.prog 129 C129 := ConB.make FS MIX TY (cons := K129) (L := L129) (ptrs := Q129) ⟨S140, trivial⟩ trivial trivial rfl rfl E129
theorem S129 : ConS Tryz.prog 129 C129 := B129.call rfl
/-! impl.isPage: function 65 -/
noncomputable def f_impl_isPage (x0 : Int) : Option (Bool) :=
  (f_impl_from x0 0 5).bind fun y384 =>
  some y384
noncomputable def C65 : Con := ⟨[(.B, false, [(.int .i64)])], [(false, [.bool])], [(.int .i64)], [.bool], fun (p : Int) => f_impl_isPage p⟩
noncomputable abbrev K65 : Cons := [(140, C140)]
noncomputable abbrev L65 : List (Nat × Loops) := []
abbrev Q65 : List (Nat × List (Int × Nat) × Nat) := []
noncomputable abbrev X65 : Nat → Ctx := ctxOf tb K65 L65 Q65
theorem E65 : ∀ x, funRun fs X65 6 65 C65 x = C65.fn x := fun x => by kernel_rfl
theorem B65 : ConB Tryz.prog 65 C65 := ConB.make FS MIX TY (cons := K65) (L := L65) (ptrs := Q65) ⟨S140, trivial⟩ trivial trivial rfl rfl E65
theorem S65 : ConS Tryz.prog 65 C65 := B65.call rfl
/-! impl.MsgOk: function 110 -/
noncomputable def f_impl_MsgOk (x0 : Int) (x1 : Int) (x2 : Bool) (x3 : List Int) : Option (Bool) :=
  (f_impl_from x0 1 7).bind fun y385 =>
  bif (!y385) then
    some false
  else
    (f_impl_isPage x1).bind fun y386 =>
    bif (!y386) then
      some false
    else
      bif x2 then
        bif (!(decide (x0 = (3 : Int)))) then
          bif (!(decide (x0 = (6 : Int)))) then
            some false
          else
            bif (decide (x0 = (3 : Int))) then
              (f_impl_wordsOk x3 4).bind fun y387 =>
              some y387
            else
              bif (decide (x0 = (7 : Int))) then
                (f_impl_wordsOk x3 4).bind fun y388 =>
                some y388
              else
                some (decide ((x3.length : Int) = (0 : Int)))
        else
          bif (decide (x0 = (3 : Int))) then
            (f_impl_wordsOk x3 4).bind fun y389 =>
            some y389
          else
            bif (decide (x0 = (7 : Int))) then
              (f_impl_wordsOk x3 4).bind fun y390 =>
              some y390
            else
              some (decide ((x3.length : Int) = (0 : Int)))
      else
        bif (decide (x0 = (3 : Int))) then
          (f_impl_wordsOk x3 4).bind fun y391 =>
          some y391
        else
          bif (decide (x0 = (7 : Int))) then
            (f_impl_wordsOk x3 4).bind fun y392 =>
            some y392
          else
            some (decide ((x3.length : Int) = (0 : Int)))
noncomputable def C110 : Con := ⟨[(.B, true, [(.int .i64), (.int .i64), .bool, (.sl R0)])], [(false, [.bool])], [(.int .i64), (.int .i64), .bool, (.sl R0)], [.bool], fun (p : Int × Int × Bool × List Int) => f_impl_MsgOk p.1 p.2.1 p.2.2.1 p.2.2.2⟩
noncomputable abbrev K110 : Cons := [(65, C65), (140, C140), (179, C179)]
noncomputable abbrev L110 : List (Nat × Loops) := []
abbrev Q110 : List (Nat × List (Int × Nat) × Nat) := []
noncomputable abbrev X110 : Nat → Ctx := ctxOf tb K110 L110 Q110
theorem E110 : ∀ x, funRun fs X110 6 110 C110 x = C110.fn x := fun x => by kernel_rfl
theorem B110 : ConB Tryz.prog 110 C110 := ConB.make FS MIX TY (cons := K110) (L := L110) (ptrs := Q110) ⟨S65, S140, S179, trivial⟩ trivial trivial rfl rfl E110
theorem S110 : ConS Tryz.prog 110 C110 := B110.call rfl
/-! impl.SenderOk$1: function 191 -/
noncomputable def f_impl_SenderOk_1 (x0 : Int) (x1 : Int) (x2 : Bool) (x3 : List Int) : Option (Bool) :=
  (f_impl_MsgOk x0 x1 x2 x3).bind fun y393 =>
  some (!y393)
noncomputable def C191 : Con := ⟨[(.B, true, [(.int .i64), (.int .i64), .bool, (.sl R0)])], [(false, [.bool])], [(.int .i64), (.int .i64), .bool, (.sl R0)], [.bool], fun (p : Int × Int × Bool × List Int) => f_impl_SenderOk_1 p.1 p.2.1 p.2.2.1 p.2.2.2⟩
noncomputable abbrev K191 : Cons := [(110, C110)]
noncomputable abbrev L191 : List (Nat × Loops) := []
abbrev Q191 : List (Nat × List (Int × Nat) × Nat) := []
noncomputable abbrev X191 : Nat → Ctx := ctxOf tb K191 L191 Q191
theorem E191 : ∀ x, funRun fs X191 6 191 C191 x = C191.fn x := fun x => by kernel_rfl
theorem B191 : ConB Tryz.prog 191 C191 := ConB.make FS MIX TY (cons := K191) (L := L191) (ptrs := Q191) ⟨S110, trivial⟩ trivial trivial rfl rfl E191
theorem S191 : ConS Tryz.prog 191 C191 := B191.call rfl
/-! impl.SenderOk: function 126 -/
noncomputable def f_impl_SenderOk.l0 : Nat → (List (Int × Int × Bool × List Int)) → Int → Int → Int → Int → (List (Int × Int × Bool × List Int)) → Option ((Int × Int × (List (Int × Int × Bool × List Int))) ⊕ (Int × Int × (List (Int × Int × Bool × List Int))))
  | 0, _, _, _, _, _, _ => none
  | n + 1, p395, p396, p397, p398, p399, p400 =>
    bif (decide (p398 < p397)) then
      bif ((decide ((0 : Int) ≤ p398)) && (decide (p398 < (p395.length : Int)))) then
      (f_impl_SenderOk_1 ((p395.getD p398.toNat (0, 0, false, [])).1) ((p395.getD p398.toNat (0, 0, false, [])).2.1) ((p395.getD p398.toNat (0, 0, false, [])).2.2.1) ((p395.getD p398.toNat (0, 0, false, [])).2.2.2)).bind fun y401 =>
      bif y401 then
        some (.inl (p398, p399, p400))
      else
        f_impl_SenderOk.l0 n p395 p396 p397 (IntKind.wrap .i64 (p398 + (1 : Int))) p399 p400
      else none
    else
      some (.inr (p396, p399, p400))
noncomputable def f_impl_SenderOk (x0 : Int) (x1 : List (Int × Int × Bool × List Int)) : Option (Bool) :=
  (f_impl_isSeq x0).bind fun y394 =>
  bif y394 then
    bif (decide ((x1.length : Int) ≤ (30 : Int))) then
      bif (decide ((IntKind.wrap .i64 (x0 + (x1.length : Int))) ≤ (100000 : Int))) then
        (f_impl_SenderOk.l0 N x1 0 (x1.length : Int) 0 x0 x1).bind fun r402 =>
        cs r402 (fun a403 =>
          some (!(decide ((0 : Int) ≤ a403.1)))) (fun b404 =>
          some true)
      else
        some false
    else
      some false
  else
    some false
noncomputable def C126 : Con := ⟨[(.B, true, [(.int .i64), (.sl R5)])], [(false, [.bool])], [(.int .i64), (.sl R5)], [.bool], fun (p : Int × (List (Int × Int × Bool × List Int))) => f_impl_SenderOk p.1 p.2⟩
noncomputable def f_impl_SenderOk.l0.c : LoopCon := ⟨1530, 4, [0, 1, 4, 7, 8], ⟨[(0, .bor none R5 []), (1, .func 191 []), (4, .int .i64 0), (7, .int .i64 0), (8, .int .i64 0)], [(1002, .box [.int .i64 0, .bor (some 1) R5 []])], 1530⟩, [(.sl R5), (.int .i64), (.int .i64), (.int .i64), (.int .i64), (.sl R5)], [⟨.ret, [4], ⟨[(4, .int .i64 0)], [(1002, .box [.int .i64 0, .bor (some 1) R5 []])], 1530⟩, [(.int .i64), (.int .i64), (.sl R5)]⟩, ⟨.exit 0, [4], ⟨[(4, .int .i64 0)], [(1002, .box [.int .i64 0, .bor (some 1) R5 []])], 1530⟩, [(.int .i64), (.int .i64), (.sl R5)]⟩], fun (p : (List (Int × Int × Bool × List Int)) × Int × Int × Int × Int × (List (Int × Int × Bool × List Int))) => f_impl_SenderOk.l0 N p.1 p.2.1 p.2.2.1 p.2.2.2.1 p.2.2.2.2.1 p.2.2.2.2.2⟩
noncomputable abbrev K126 : Cons := [(129, C129), (191, C191)]
noncomputable abbrev L126 : List (Nat × Loops) := [(218, [(2, f_impl_SenderOk.l0.c)])]
abbrev Q126 : List (Nat × List (Int × Nat) × Nat) := []
noncomputable abbrev X126 : Nat → Ctx := ctxOf tb K126 L126 Q126
theorem f_impl_SenderOk.l0.ok : ∀ n p, (fun (p : (List (Int × Int × Bool × List Int)) × Int × Int × Int × Int × (List (Int × Int × Bool × List Int))) => f_impl_SenderOk.l0 n p.1 p.2.1 p.2.2.1 p.2.2.2.1 p.2.2.2.2.1 p.2.2.2.2.2) p = iterD (roundOf fs X126 4 218 2 true f_impl_SenderOk.l0.c) n p :=
  iter_of (l := fun n => fun (p : (List (Int × Int × Bool × List Int)) × Int × Int × Int × Int × (List (Int × Int × Bool × List Int))) => f_impl_SenderOk.l0 n p.1 p.2.1 p.2.2.1 p.2.2.2.1 p.2.2.2.2.1 p.2.2.2.2.2) (fun _ => rfl) (fun n p => by kernel_rfl)
theorem E126 : ∀ x, funRun fs X126 6 126 C126 x = C126.fn x := fun x => by kernel_rfl
theorem B126 : ConB Tryz.prog 126 C126 := ConB.make FS MIX TY (cons := K126) (L := L126) (ptrs := Q126) ⟨S129, S191, trivial⟩ trivial ⟨⟨⟨N, fun p => f_impl_SenderOk.l0.ok N p⟩, trivial⟩, trivial⟩ rfl rfl E126
theorem S126 : ConS Tryz.prog 126 C126 := B126.call rfl
/-! impl.NodeOk$3: function 125 -/
noncomputable def f_impl_NodeOk_3 (x0 : Int) (x1 : List (Int × Int × Bool × List Int)) : Option (Bool) :=
  (f_impl_SenderOk x0 x1).bind fun y405 =>
  some (!y405)
noncomputable def C125 : Con := ⟨[(.B, true, [(.int .i64), (.sl R5)])], [(false, [.bool])], [(.int .i64), (.sl R5)], [.bool], fun (p : Int × (List (Int × Int × Bool × List Int))) => f_impl_NodeOk_3 p.1 p.2⟩
noncomputable abbrev K125 : Cons := [(126, C126)]
noncomputable abbrev L125 : List (Nat × Loops) := []
abbrev Q125 : List (Nat × List (Int × Nat) × Nat) := []
noncomputable abbrev X125 : Nat → Ctx := ctxOf tb K125 L125 Q125
theorem E125 : ∀ x, funRun fs X125 6 125 C125 x = C125.fn x := fun x => by kernel_rfl
theorem B125 : ConB Tryz.prog 125 C125 := ConB.make FS MIX TY (cons := K125) (L := L125) (ptrs := Q125) ⟨S126, trivial⟩ trivial trivial rfl rfl E125
theorem S125 : ConS Tryz.prog 125 C125 := B125.call rfl
/-! impl.NodeOk$4: function 128 -/
noncomputable def f_impl_NodeOk_4 (x0 : Int) : Option (Bool) :=
  (f_impl_isSeq x0).bind fun y406 =>
  some (!y406)
noncomputable def C128 : Con := ⟨[(.B, true, [(.int .i64)])], [(false, [.bool])], [(.int .i64)], [.bool], fun (p : Int) => f_impl_NodeOk_4 p⟩
noncomputable abbrev K128 : Cons := [(129, C129)]
noncomputable abbrev L128 : List (Nat × Loops) := []
abbrev Q128 : List (Nat × List (Int × Nat) × Nat) := []
noncomputable abbrev X128 : Nat → Ctx := ctxOf tb K128 L128 Q128
theorem E128 : ∀ x, funRun fs X128 6 128 C128 x = C128.fn x := fun x => by kernel_rfl
theorem B128 : ConB Tryz.prog 128 C128 := ConB.make FS MIX TY (cons := K128) (L := L128) (ptrs := Q128) ⟨S129, trivial⟩ trivial trivial rfl rfl E128
theorem S128 : ConS Tryz.prog 128 C128 := B128.call rfl
end
end Go.Abs
