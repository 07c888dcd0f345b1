import Derived.Test.YtdhjooflkiagaaaGreatProg
import Derived.Test.YtdhjooflkiagaaaGreatAbtD
import Derived.KernelRfl
namespace Go.Abs
open Go.Proofs
set_option linter.unusedVariables false
set_option maxRecDepth 100000
noncomputable section
abbrev N : Nat := 1152921504606846976
abbrev R0 : RT := .one (.int .i64)
abbrev R1 : RT := .cons (.int .i64) (.cons (.sl R0) (.one .bool))
abbrev R2 : RT := .one .bool
abbrev R3 : RT := .cons (.int .i64) (.one .bool)
abbrev R4 : RT := .cons (.sl R0) (.cons (.int .i64) (.cons (.sl R2) (.cons .bool (.cons (.int .i64) (.cons .bool (.cons (.int .i64) (.one (.sl R3))))))))
abbrev R5 : RT := .cons (.int .i64) (.cons (.int .i64) (.cons .bool (.one (.sl R0))))
abbrev R6 : RT := .cons (.int .i64) (.one (.sl R5))
noncomputable def tb : Tb := [(0, ⟨false, [], [], 0, 0⟩),
  (3, ⟨false, [(.int .i64)], [], 0, 8⟩),
  (4, ⟨false, [.bool], [], 0, 1⟩),
  (37, ⟨false, [(.sl R1)], [], 179, 24⟩),
  (38, ⟨false, [(.sl R4)], [], 184, 24⟩),
  (39, ⟨false, [(.sl R6)], [], 188, 24⟩),
  (40, ⟨false, [(.sl R0)], [], 197, 24⟩),
  (42, ⟨true, [(.int .i64), (.sl R1), (.sl R4), (.sl R6), (.sl R0)], [(0, 3), (1, 37), (2, 38), (3, 39), (4, 40)], 0, 104⟩),
  (44, ⟨false, [(.sl R1)], [], 89, 24⟩),
  (45, ⟨false, [(.sl R4)], [], 146, 24⟩),
  (46, ⟨false, [(.sl R6)], [], 73, 24⟩),
  (47, ⟨false, [(.sl R0)], [], 106, 24⟩),
  (49, ⟨true, [(.int .i64), (.sl R1), (.sl R4), (.sl R6), (.sl R0)], [(0, 3), (1, 44), (2, 45), (3, 46), (4, 47)], 0, 104⟩),
  (50, ⟨false, [], [], 0, 0⟩),
  (56, ⟨false, [(.sl R5)], [], 76, 24⟩),
  (66, ⟨false, [(.sl R0)], [], 3, 24⟩),
  (73, ⟨true, [(.int .i64), (.sl R5)], [(0, 3), (1, 56)], 0, 32⟩),
  (76, ⟨true, [(.int .i64), (.int .i64), .bool, (.sl R0)], [(0, 3), (1, 3), (2, 4), (3, 66)], 0, 48⟩),
  (89, ⟨true, [(.int .i64), (.sl R0), .bool], [(0, 3), (1, 66), (2, 4)], 0, 40⟩),
  (90, ⟨true, [(.int .i64), (.int .i64), .bool, (.sl R0)], [(0, 3), (1, 3), (2, 4), (3, 66)], 0, 48⟩),
  (102, ⟨false, [], [], 0, 8⟩),
  (106, ⟨true, [(.int .i64)], [(0, 3)], 0, 8⟩),
  (113, ⟨false, [], [], 0, 0⟩),
  (137, ⟨false, [], [], 0, 8⟩),
  (141, ⟨false, [(.sl R2)], [], 4, 24⟩),
  (143, ⟨true, [(.int .i64), .bool], [(0, 3), (1, 4)], 0, 16⟩),
  (144, ⟨false, [(.sl R3)], [], 143, 24⟩),
  (146, ⟨true, [(.sl R0), (.int .i64), (.sl R2), .bool, (.int .i64), .bool, (.int .i64), (.sl R3)], [(0, 66), (1, 3), (2, 141), (3, 4), (4, 143), (6, 3), (7, 144)], 0, 112⟩),
  (156, ⟨false, [], [], 0, 8⟩),
  (159, ⟨false, [], [], 0, 8⟩),
  (161, ⟨false, [], [], 0, 8⟩),
  (163, ⟨false, [], [], 0, 8⟩),
  (179, ⟨true, [(.int .i64), (.sl R0), .bool], [(0, 3), (1, 66), (2, 4)], 0, 40⟩),
  (181, ⟨true, [(.int .i64), .bool], [(0, 3), (1, 4)], 0, 16⟩),
  (182, ⟨false, [(.sl R3)], [], 181, 24⟩),
  (184, ⟨true, [(.sl R0), (.int .i64), (.sl R2), .bool, (.int .i64), .bool, (.int .i64), (.sl R3)], [(0, 66), (1, 3), (2, 141), (3, 4), (4, 181), (6, 3), (7, 182)], 0, 112⟩),
  (186, ⟨false, [(.sl R5)], [], 90, 24⟩),
  (188, ⟨true, [(.int .i64), (.sl R5)], [(0, 3), (1, 186)], 0, 32⟩),
  (197, ⟨true, [(.int .i64)], [(0, 3)], 0, 8⟩),
  (221, ⟨false, [], [], 0, 8⟩)]
noncomputable def fsL : List (Nat × Func) := [(135, Tryz.f135), (148, Tryz.f148), (73, Tryz.f73), (194, Tryz.f194), (195, Tryz.f195), (149, Tryz.f149), (74, Tryz.f74), (53, Tryz.f53), (196, Tryz.f196), (150, Tryz.f150), (75, Tryz.f75), (76, Tryz.f76), (18, Tryz.f18), (136, Tryz.f136), (155, Tryz.f155), (80, Tryz.f80), (197, Tryz.f197), (198, Tryz.f198), (199, Tryz.f199), (156, Tryz.f156), (81, Tryz.f81), (54, Tryz.f54), (200, Tryz.f200), (157, Tryz.f157), (82, Tryz.f82), (158, Tryz.f158), (83, Tryz.f83), (20, Tryz.f20), (151, Tryz.f151), (152, Tryz.f152), (154, Tryz.f154), (153, Tryz.f153), (77, Tryz.f77), (60, Tryz.f60), (182, Tryz.f182), (130, Tryz.f130), (131, Tryz.f131), (113, Tryz.f113), (132, Tryz.f132), (48, Tryz.f48), (78, Tryz.f78), (79, Tryz.f79), (19, Tryz.f19), (159, Tryz.f159), (146, Tryz.f146), (160, Tryz.f160), (201, Tryz.f201), (202, Tryz.f202), (161, Tryz.f161), (163, Tryz.f163), (162, Tryz.f162), (84, Tryz.f84), (140, Tryz.f140), (100, Tryz.f100), (212, Tryz.f212), (211, Tryz.f211), (222, Tryz.f222), (210, Tryz.f210), (179, Tryz.f179), (120, Tryz.f120), (119, Tryz.f119), (185, Tryz.f185), (118, Tryz.f118), (188, Tryz.f188), (217, Tryz.f217), (187, Tryz.f187), (123, Tryz.f123), (122, Tryz.f122), (186, Tryz.f186), (121, Tryz.f121), (129, Tryz.f129), (65, Tryz.f65), (110, Tryz.f110), (191, Tryz.f191), (218, Tryz.f218), (190, Tryz.f190), (126, Tryz.f126), (125, Tryz.f125), (189, Tryz.f189), (124, Tryz.f124), (128, Tryz.f128), (192, Tryz.f192), (127, Tryz.f127), (47, Tryz.f47), (85, Tryz.f85), (86, Tryz.f86), (21, Tryz.f21), (39, Tryz.f39), (164, Tryz.f164), (87, Tryz.f87), (203, Tryz.f203), (204, Tryz.f204), (205, Tryz.f205), (165, Tryz.f165), (88, Tryz.f88), (55, Tryz.f55), (27, Tryz.f27), (166, Tryz.f166), (89, Tryz.f89), (167, Tryz.f167), (90, Tryz.f90), (22, Tryz.f22), (40, Tryz.f40), (91, Tryz.f91), (168, Tryz.f168), (169, Tryz.f169), (92, Tryz.f92), (29, Tryz.f29), (93, Tryz.f93), (94, Tryz.f94), (23, Tryz.f23), (41, Tryz.f41), (95, Tryz.f95), (170, Tryz.f170), (171, Tryz.f171), (96, Tryz.f96), (30, Tryz.f30), (97, Tryz.f97), (98, Tryz.f98), (24, Tryz.f24), (5, Tryz.f5)]
noncomputable def fs : Nat → Option Func := getF fsL
theorem MIX : Tryz.prog.follows .mixedOrders = true := by kernel_rfl
theorem TY : tyCheck Tryz.prog tb = true := by kernel_rfl
theorem CAT : catCheck tb = true := by kernel_rfl
theorem FSP : FsP Tryz.prog fsL := ⟨Tryz.func135, Tryz.func148, Tryz.func73, Tryz.func194, Tryz.func195, Tryz.func149, Tryz.func74, Tryz.func53, Tryz.func196, Tryz.func150, Tryz.func75, Tryz.func76, Tryz.func18, Tryz.func136, Tryz.func155, Tryz.func80, Tryz.func197, Tryz.func198, Tryz.func199, Tryz.func156, Tryz.func81, Tryz.func54, Tryz.func200, Tryz.func157, Tryz.func82, Tryz.func158, Tryz.func83, Tryz.func20, Tryz.func151, Tryz.func152, Tryz.func154, Tryz.func153, Tryz.func77, Tryz.func60, Tryz.func182, Tryz.func130, Tryz.func131, Tryz.func113, Tryz.func132, Tryz.func48, Tryz.func78, Tryz.func79, Tryz.func19, Tryz.func159, Tryz.func146, Tryz.func160, Tryz.func201, Tryz.func202, Tryz.func161, Tryz.func163, Tryz.func162, Tryz.func84, Tryz.func140, Tryz.func100, Tryz.func212, Tryz.func211, Tryz.func222, Tryz.func210, Tryz.func179, Tryz.func120, Tryz.func119, Tryz.func185, Tryz.func118, Tryz.func188, Tryz.func217, Tryz.func187, Tryz.func123, Tryz.func122, Tryz.func186, Tryz.func121, Tryz.func129, Tryz.func65, Tryz.func110, Tryz.func191, Tryz.func218, Tryz.func190, Tryz.func126, Tryz.func125, Tryz.func189, Tryz.func124, Tryz.func128, Tryz.func192, Tryz.func127, Tryz.func47, Tryz.func85, Tryz.func86, Tryz.func21, Tryz.func39, Tryz.func164, Tryz.func87, Tryz.func203, Tryz.func204, Tryz.func205, Tryz.func165, Tryz.func88, Tryz.func55, Tryz.func27, Tryz.func166, Tryz.func89, Tryz.func167, Tryz.func90, Tryz.func22, Tryz.func40, Tryz.func91, Tryz.func168, Tryz.func169, Tryz.func92, Tryz.func29, Tryz.func93, Tryz.func94, Tryz.func23, Tryz.func41, Tryz.func95, Tryz.func170, Tryz.func171, Tryz.func96, Tryz.func30, Tryz.func97, Tryz.func98, Tryz.func24, Tryz.func5, trivial⟩
theorem FSC : (fsL.all fun p => fnChk p.2) = true := by kernel_rfl
theorem FS : FsS Tryz.prog fs := FsS.of FSP FSC
/-! laws.szIntS: function 135 -/
noncomputable def f_laws_szIntS (x0 : List Int) (x1 : Int) : Option (Int) :=
  bif (decide ((IntKind.wrap .i64 (x1 - (x0.length : Int))) < (0 : Int))) then
    some (-1)
  else
    some (IntKind.wrap .i64 (x1 - (x0.length : Int)))
noncomputable def C135 : Con := ⟨[(.B, false, [(.sl R0)]), (.B, false, [(.int .i64)])], [(false, [(.int .i64)])], [(.sl R0), (.int .i64)], [(.int .i64)], fun (p : List Int × Int) => f_laws_szIntS p.1 p.2⟩
noncomputable abbrev K135 : Cons := []
noncomputable abbrev L135 : List (Nat × Loops) := []
abbrev Q135 : List (Nat × List (Int × Nat) × Nat) := []
noncomputable abbrev X135 : Nat → Ctx := ctxOf tb K135 L135 Q135
theorem E135 : ∀ x, funRun fs X135 6 135 C135 x = C135.fn x := fun x => by kernel_rfl
theorem B135 : ConB Tryz.prog 135 C135 := ConB.make FS MIX TY (cons := K135) (L := L135) (ptrs := Q135) trivial trivial trivial rfl rfl E135
theorem S135 : ConS Tryz.prog 135 C135 := B135.call rfl
/-! laws.szFrame: function 148 -/
noncomputable def f_laws_szFrame (x0 : Int) (x1 : List Int) (x2 : Bool) (x3 : Int) : Option (Int) :=
  (f_laws_szIntS x1 x3).bind fun y1 =>
  bif (decide (y1 < (0 : Int))) then
    some (-1)
  else
    some y1
noncomputable def C148 : Con := ⟨[(.B, true, [(.int .i64), (.sl R0), .bool]), (.B, false, [(.int .i64)])], [(false, [(.int .i64)])], [(.int .i64), (.sl R0), .bool, (.int .i64)], [(.int .i64)], fun (p : Int × List Int × Bool × Int) => f_laws_szFrame p.1 p.2.1 p.2.2.1 p.2.2.2⟩
noncomputable abbrev K148 : Cons := [(135, C135)]
noncomputable abbrev L148 : List (Nat × Loops) := []
abbrev Q148 : List (Nat × List (Int × Nat) × Nat) := []
noncomputable abbrev X148 : Nat → Ctx := ctxOf tb K148 L148 Q148
theorem E148 : ∀ x, funRun fs X148 6 148 C148 x = C148.fn x := fun x => by kernel_rfl
theorem B148 : ConB Tryz.prog 148 C148 := ConB.make FS MIX TY (cons := K148) (L := L148) (ptrs := Q148) ⟨S135, trivial⟩ trivial trivial rfl rfl E148
theorem S148 : ConS Tryz.prog 148 C148 := B148.call rfl
/-! laws.szFrameS: function 73 -/
noncomputable def f_laws_szFrameS.l0 : Nat → (List (Int × List Int × Bool)) → Int → Int → Int → Option ((Int) ⊕ (Int × Int))
  | 0, _, _, _, _ => none
  | n + 1, p2, p3, p4, p5 =>
    bif (decide (p5 < (p2.length : Int))) then
      bif ((decide ((0 : Int) ≤ p5)) && (decide (p5 < (p2.length : Int)))) then
      (f_laws_szFrame ((p2.getD p5.toNat (0, [], false)).1) ((p2.getD p5.toNat (0, [], false)).2.1) ((p2.getD p5.toNat (0, [], false)).2.2) p3).bind fun y6 =>
      bif (decide (y6 < (0 : Int))) then
        some (.inl (-1))
      else
        f_laws_szFrameS.l0 n p2 y6 p4 (IntKind.wrap .i64 (p5 + (1 : Int)))
      else none
    else
      some (.inr (p3, p4))
noncomputable def f_laws_szFrameS (x0 : List (Int × List Int × Bool)) (x1 : Int) : Option (Int) :=
  bif (decide ((IntKind.wrap .i64 (x1 - (x0.length : Int))) < (0 : Int))) then
    some (-1)
  else
    (f_laws_szFrameS.l0 N x0 (IntKind.wrap .i64 (x1 - (x0.length : Int))) 0 0).bind fun r7 =>
    cs r7 (fun a8 =>
      some a8) (fun b9 =>
      some b9.1)
noncomputable def C73 : Con := ⟨[(.B, false, [(.sl R1)]), (.B, false, [(.int .i64)])], [(false, [(.int .i64)])], [(.sl R1), (.int .i64)], [(.int .i64)], fun (p : (List (Int × List Int × Bool)) × Int) => f_laws_szFrameS p.1 p.2⟩
noncomputable def f_laws_szFrameS.l0.c : LoopCon := ⟨1000, 6, [0, 1, 4, 5], ⟨[(0, .bor none R1 []), (1, .int .i64 0), (4, .int .i64 0), (5, .int .i64 0)], [], 1000⟩, [(.sl R1), (.int .i64), (.int .i64), (.int .i64)], [⟨.ret, [4], ⟨[(4, .int .i64 0)], [], 1000⟩, [(.int .i64)]⟩, ⟨.exit 0, [1, 4], ⟨[(1, .int .i64 0), (4, .int .i64 0)], [], 1000⟩, [(.int .i64), (.int .i64)]⟩], fun (p : (List (Int × List Int × Bool)) × Int × Int × Int) => f_laws_szFrameS.l0 N p.1 p.2.1 p.2.2.1 p.2.2.2⟩
noncomputable abbrev K73 : Cons := [(148, C148)]
noncomputable abbrev L73 : List (Nat × Loops) := [(73, [(5, f_laws_szFrameS.l0.c)])]
abbrev Q73 : List (Nat × List (Int × Nat) × Nat) := []
noncomputable abbrev X73 : Nat → Ctx := ctxOf tb K73 L73 Q73
theorem f_laws_szFrameS.l0.ok : ∀ n p, (fun (p : (List (Int × List Int × Bool)) × Int × Int × Int) => f_laws_szFrameS.l0 n p.1 p.2.1 p.2.2.1 p.2.2.2) p = iterD (roundOf fs X73 6 73 5 false f_laws_szFrameS.l0.c) n p :=
  iter_of (l := fun n => fun (p : (List (Int × List Int × Bool)) × Int × Int × Int) => f_laws_szFrameS.l0 n p.1 p.2.1 p.2.2.1 p.2.2.2) (fun _ => rfl) (fun n p => by kernel_rfl)
theorem E73 : ∀ x, funRun fs X73 6 73 C73 x = C73.fn x := fun x => by kernel_rfl
theorem B73 : ConB Tryz.prog 73 C73 := ConB.make FS MIX TY (cons := K73) (L := L73) (ptrs := Q73) ⟨S148, trivial⟩ trivial ⟨⟨⟨N, fun p => f_laws_szFrameS.l0.ok N p⟩, trivial⟩, trivial⟩ rfl rfl E73
theorem S73 : ConS Tryz.prog 73 C73 := B73.call rfl
/-! laws.szBoolS: function 194 -/
noncomputable def f_laws_szBoolS (x0 : List Bool) (x1 : Int) : Option (Int) :=
  bif (decide ((IntKind.wrap .i64 (x1 - (x0.length : Int))) < (0 : Int))) then
    some (-1)
  else
    some (IntKind.wrap .i64 (x1 - (x0.length : Int)))
noncomputable def C194 : Con := ⟨[(.B, false, [(.sl R2)]), (.B, false, [(.int .i64)])], [(false, [(.int .i64)])], [(.sl R2), (.int .i64)], [(.int .i64)], fun (p : List Bool × Int) => f_laws_szBoolS p.1 p.2⟩
noncomputable abbrev K194 : Cons := []
noncomputable abbrev L194 : List (Nat × Loops) := []
abbrev Q194 : List (Nat × List (Int × Nat) × Nat) := []
noncomputable abbrev X194 : Nat → Ctx := ctxOf tb K194 L194 Q194
theorem E194 : ∀ x, funRun fs X194 6 194 C194 x = C194.fn x := fun x => by kernel_rfl
theorem B194 : ConB Tryz.prog 194 C194 := ConB.make FS MIX TY (cons := K194) (L := L194) (ptrs := Q194) trivial trivial trivial rfl rfl E194
theorem S194 : ConS Tryz.prog 194 C194 := B194.call rfl
/-! laws.szWaitS: function 195 -/
noncomputable def f_laws_szWaitS (x0 : List (Int × Bool)) (x1 : Int) : Option (Int) :=
  bif (decide ((IntKind.wrap .i64 (x1 - (x0.length : Int))) < (0 : Int))) then
    some (-1)
  else
    some (IntKind.wrap .i64 (x1 - (x0.length : Int)))
noncomputable def C195 : Con := ⟨[(.B, false, [(.sl R3)]), (.B, false, [(.int .i64)])], [(false, [(.int .i64)])], [(.sl R3), (.int .i64)], [(.int .i64)], fun (p : (List (Int × Bool)) × Int) => f_laws_szWaitS p.1 p.2⟩
noncomputable abbrev K195 : Cons := []
noncomputable abbrev L195 : List (Nat × Loops) := []
abbrev Q195 : List (Nat × List (Int × Nat) × Nat) := []
noncomputable abbrev X195 : Nat → Ctx := ctxOf tb K195 L195 Q195
theorem E195 : ∀ x, funRun fs X195 6 195 C195 x = C195.fn x := fun x => by kernel_rfl
theorem B195 : ConB Tryz.prog 195 C195 := ConB.make FS MIX TY (cons := K195) (L := L195) (ptrs := Q195) trivial trivial trivial rfl rfl E195
theorem S195 : ConS Tryz.prog 195 C195 := B195.call rfl
/-! laws.szHome: function 149 -/
noncomputable def f_laws_szHome (x0 : List Int) (x1 : Int) (x2 : List Bool) (x3 : Bool) (x4 : Int) (x5 : Bool) (x6 : Int) (x7 : List (Int × Bool)) (x8 : Int) : Option (Int) :=
  (f_laws_szIntS x0 x8).bind fun y10 =>
  bif (decide (y10 < (0 : Int))) then
    some (-1)
  else
    (f_laws_szBoolS x2 y10).bind fun y11 =>
    bif (decide (y11 < (0 : Int))) then
      some (-1)
    else
      (f_laws_szWaitS x7 y11).bind fun y12 =>
      bif (decide (y12 < (0 : Int))) then
        some (-1)
      else
        some y12
noncomputable def C149 : Con := ⟨[(.B, true, [(.sl R0), (.int .i64), (.sl R2), .bool, (.int .i64), .bool, (.int .i64), (.sl R3)]), (.B, false, [(.int .i64)])], [(false, [(.int .i64)])], [(.sl R0), (.int .i64), (.sl R2), .bool, (.int .i64), .bool, (.int .i64), (.sl R3), (.int .i64)], [(.int .i64)], fun (p : List Int × Int × List Bool × Bool × Int × Bool × Int × (List (Int × Bool)) × Int) => f_laws_szHome p.1 p.2.1 p.2.2.1 p.2.2.2.1 p.2.2.2.2.1 p.2.2.2.2.2.1 p.2.2.2.2.2.2.1 p.2.2.2.2.2.2.2.1 p.2.2.2.2.2.2.2.2⟩
noncomputable abbrev K149 : Cons := [(135, C135), (194, C194), (195, C195)]
noncomputable abbrev L149 : List (Nat × Loops) := []
abbrev Q149 : List (Nat × List (Int × Nat) × Nat) := []
noncomputable abbrev X149 : Nat → Ctx := ctxOf tb K149 L149 Q149
theorem E149 : ∀ x, funRun fs X149 6 149 C149 x = C149.fn x := fun x => by kernel_rfl
theorem B149 : ConB Tryz.prog 149 C149 := ConB.make FS MIX TY (cons := K149) (L := L149) (ptrs := Q149) ⟨S135, S194, S195, trivial⟩ trivial trivial rfl rfl E149
theorem S149 : ConS Tryz.prog 149 C149 := B149.call rfl
/-! laws.szHomeS: function 74 -/
noncomputable def f_laws_szHomeS.l0 : Nat → (List (List Int × Int × List Bool × Bool × Int × Bool × Int × (List (Int × Bool)))) → Int → Int → Int → Option ((Int) ⊕ (Int × Int))
  | 0, _, _, _, _ => none
  | n + 1, p13, p14, p15, p16 =>
    bif (decide (p16 < (p13.length : Int))) then
      bif ((decide ((0 : Int) ≤ p16)) && (decide (p16 < (p13.length : Int)))) then
      (f_laws_szHome ((p13.getD p16.toNat ([], 0, [], false, 0, false, 0, [])).1) ((p13.getD p16.toNat ([], 0, [], false, 0, false, 0, [])).2.1) ((p13.getD p16.toNat ([], 0, [], false, 0, false, 0, [])).2.2.1) ((p13.getD p16.toNat ([], 0, [], false, 0, false, 0, [])).2.2.2.1) ((p13.getD p16.toNat ([], 0, [], false, 0, false, 0, [])).2.2.2.2.1) ((p13.getD p16.toNat ([], 0, [], false, 0, false, 0, [])).2.2.2.2.2.1) ((p13.getD p16.toNat ([], 0, [], false, 0, false, 0, [])).2.2.2.2.2.2.1) ((p13.getD p16.toNat ([], 0, [], false, 0, false, 0, [])).2.2.2.2.2.2.2) p14).bind fun y17 =>
      bif (decide (y17 < (0 : Int))) then
        some (.inl (-1))
      else
        f_laws_szHomeS.l0 n p13 y17 p15 (IntKind.wrap .i64 (p16 + (1 : Int)))
      else none
    else
      some (.inr (p14, p15))
noncomputable def f_laws_szHomeS (x0 : List (List Int × Int × List Bool × Bool × Int × Bool × Int × (List (Int × Bool)))) (x1 : Int) : Option (Int) :=
  bif (decide ((IntKind.wrap .i64 (x1 - (x0.length : Int))) < (0 : Int))) then
    some (-1)
  else
    (f_laws_szHomeS.l0 N x0 (IntKind.wrap .i64 (x1 - (x0.length : Int))) 0 0).bind fun r18 =>
    cs r18 (fun a19 =>
      some a19) (fun b20 =>
      some b20.1)
noncomputable def C74 : Con := ⟨[(.B, false, [(.sl R4)]), (.B, false, [(.int .i64)])], [(false, [(.int .i64)])], [(.sl R4), (.int .i64)], [(.int .i64)], fun (p : (List (List Int × Int × List Bool × Bool × Int × Bool × Int × (List (Int × Bool)))) × Int) => f_laws_szHomeS p.1 p.2⟩
noncomputable def f_laws_szHomeS.l0.c : LoopCon := ⟨1000, 6, [0, 1, 4, 5], ⟨[(0, .bor none R4 []), (1, .int .i64 0), (4, .int .i64 0), (5, .int .i64 0)], [], 1000⟩, [(.sl R4), (.int .i64), (.int .i64), (.int .i64)], [⟨.ret, [4], ⟨[(4, .int .i64 0)], [], 1000⟩, [(.int .i64)]⟩, ⟨.exit 0, [1, 4], ⟨[(1, .int .i64 0), (4, .int .i64 0)], [], 1000⟩, [(.int .i64), (.int .i64)]⟩], fun (p : (List (List Int × Int × List Bool × Bool × Int × Bool × Int × (List (Int × Bool)))) × Int × Int × Int) => f_laws_szHomeS.l0 N p.1 p.2.1 p.2.2.1 p.2.2.2⟩
noncomputable abbrev K74 : Cons := [(149, C149)]
noncomputable abbrev L74 : List (Nat × Loops) := [(74, [(5, f_laws_szHomeS.l0.c)])]
abbrev Q74 : List (Nat × List (Int × Nat) × Nat) := []
noncomputable abbrev X74 : Nat → Ctx := ctxOf tb K74 L74 Q74
theorem f_laws_szHomeS.l0.ok : ∀ n p, (fun (p : (List (List Int × Int × List Bool × Bool × Int × Bool × Int × (List (Int × Bool)))) × Int × Int × Int) => f_laws_szHomeS.l0 n p.1 p.2.1 p.2.2.1 p.2.2.2) p = iterD (roundOf fs X74 6 74 5 false f_laws_szHomeS.l0.c) n p :=
  iter_of (l := fun n => fun (p : (List (List Int × Int × List Bool × Bool × Int × Bool × Int × (List (Int × Bool)))) × Int × Int × Int) => f_laws_szHomeS.l0 n p.1 p.2.1 p.2.2.1 p.2.2.2) (fun _ => rfl) (fun n p => by kernel_rfl)
theorem E74 : ∀ x, funRun fs X74 6 74 C74 x = C74.fn x := fun x => by kernel_rfl
theorem B74 : ConB Tryz.prog 74 C74 := ConB.make FS MIX TY (cons := K74) (L := L74) (ptrs := Q74) ⟨S149, trivial⟩ trivial ⟨⟨⟨N, fun p => f_laws_szHomeS.l0.ok N p⟩, trivial⟩, trivial⟩ rfl rfl E74
theorem S74 : ConS Tryz.prog 74 C74 := B74.call rfl
/-! laws.szMsg: function 53 -/
noncomputable def f_laws_szMsg (x0 : Int) (x1 : Int) (x2 : Bool) (x3 : List Int) (x4 : Int) : Option (Int) :=
  (f_laws_szIntS x3 x4).bind fun y21 =>
  bif (decide (y21 < (0 : Int))) then
    some (-1)
  else
    some y21
noncomputable def C53 : Con := ⟨[(.B, true, [(.int .i64), (.int .i64), .bool, (.sl R0)]), (.B, false, [(.int .i64)])], [(false, [(.int .i64)])], [(.int .i64), (.int .i64), .bool, (.sl R0), (.int .i64)], [(.int .i64)], fun (p : Int × Int × Bool × List Int × Int) => f_laws_szMsg p.1 p.2.1 p.2.2.1 p.2.2.2.1 p.2.2.2.2⟩
noncomputable abbrev K53 : Cons := [(135, C135)]
noncomputable abbrev L53 : List (Nat × Loops) := []
abbrev Q53 : List (Nat × List (Int × Nat) × Nat) := []
noncomputable abbrev X53 : Nat → Ctx := ctxOf tb K53 L53 Q53
theorem E53 : ∀ x, funRun fs X53 6 53 C53 x = C53.fn x := fun x => by kernel_rfl
theorem B53 : ConB Tryz.prog 53 C53 := ConB.make FS MIX TY (cons := K53) (L := L53) (ptrs := Q53) ⟨S135, trivial⟩ trivial trivial rfl rfl E53
theorem S53 : ConS Tryz.prog 53 C53 := B53.call rfl
/-! laws.szMsgS: function 196 -/
noncomputable def f_laws_szMsgS.l0 : Nat → (List (Int × Int × Bool × List Int)) → Int → Int → Int → Option ((Int) ⊕ (Int × Int))
  | 0, _, _, _, _ => none
  | n + 1, p22, p23, p24, p25 =>
    bif (decide (p25 < (p22.length : Int))) then
      bif ((decide ((0 : Int) ≤ p25)) && (decide (p25 < (p22.length : Int)))) then
      (f_laws_szMsg ((p22.getD p25.toNat (0, 0, false, [])).1) ((p22.getD p25.toNat (0, 0, false, [])).2.1) ((p22.getD p25.toNat (0, 0, false, [])).2.2.1) ((p22.getD p25.toNat (0, 0, false, [])).2.2.2) p23).bind fun y26 =>
      bif (decide (y26 < (0 : Int))) then
        some (.inl (-1))
      else
        f_laws_szMsgS.l0 n p22 y26 p24 (IntKind.wrap .i64 (p25 + (1 : Int)))
      else none
    else
      some (.inr (p23, p24))
noncomputable def f_laws_szMsgS (x0 : List (Int × Int × Bool × List Int)) (x1 : Int) : Option (Int) :=
  bif (decide ((IntKind.wrap .i64 (x1 - (x0.length : Int))) < (0 : Int))) then
    some (-1)
  else
    (f_laws_szMsgS.l0 N x0 (IntKind.wrap .i64 (x1 - (x0.length : Int))) 0 0).bind fun r27 =>
    cs r27 (fun a28 =>
      some a28) (fun b29 =>
      some b29.1)
noncomputable def C196 : Con := ⟨[(.B, false, [(.sl R5)]), (.B, false, [(.int .i64)])], [(false, [(.int .i64)])], [(.sl R5), (.int .i64)], [(.int .i64)], fun (p : (List (Int × Int × Bool × List Int)) × Int) => f_laws_szMsgS p.1 p.2⟩
noncomputable def f_laws_szMsgS.l0.c : LoopCon := ⟨1000, 6, [0, 1, 4, 5], ⟨[(0, .bor none R5 []), (1, .int .i64 0), (4, .int .i64 0), (5, .int .i64 0)], [], 1000⟩, [(.sl R5), (.int .i64), (.int .i64), (.int .i64)], [⟨.ret, [4], ⟨[(4, .int .i64 0)], [], 1000⟩, [(.int .i64)]⟩, ⟨.exit 0, [1, 4], ⟨[(1, .int .i64 0), (4, .int .i64 0)], [], 1000⟩, [(.int .i64), (.int .i64)]⟩], fun (p : (List (Int × Int × Bool × List Int)) × Int × Int × Int) => f_laws_szMsgS.l0 N p.1 p.2.1 p.2.2.1 p.2.2.2⟩
noncomputable abbrev K196 : Cons := [(53, C53)]
noncomputable abbrev L196 : List (Nat × Loops) := [(196, [(5, f_laws_szMsgS.l0.c)])]
abbrev Q196 : List (Nat × List (Int × Nat) × Nat) := []
noncomputable abbrev X196 : Nat → Ctx := ctxOf tb K196 L196 Q196
theorem f_laws_szMsgS.l0.ok : ∀ n p, (fun (p : (List (Int × Int × Bool × List Int)) × Int × Int × Int) => f_laws_szMsgS.l0 n p.1 p.2.1 p.2.2.1 p.2.2.2) p = iterD (roundOf fs X196 6 196 5 false f_laws_szMsgS.l0.c) n p :=
  iter_of (l := fun n => fun (p : (List (Int × Int × Bool × List Int)) × Int × Int × Int) => f_laws_szMsgS.l0 n p.1 p.2.1 p.2.2.1 p.2.2.2) (fun _ => rfl) (fun n p => by kernel_rfl)
theorem E196 : ∀ x, funRun fs X196 6 196 C196 x = C196.fn x := fun x => by kernel_rfl
theorem B196 : ConB Tryz.prog 196 C196 := ConB.make FS MIX TY (cons := K196) (L := L196) (ptrs := Q196) ⟨S53, trivial⟩ trivial ⟨⟨⟨N, fun p => f_laws_szMsgS.l0.ok N p⟩, trivial⟩, trivial⟩ rfl rfl E196
theorem S196 : ConS Tryz.prog 196 C196 := B196.call rfl
/-! laws.szSender: function 150 -/
noncomputable def f_laws_szSender (x0 : Int) (x1 : List (Int × Int × Bool × List Int)) (x2 : Int) : Option (Int) :=
  (f_laws_szMsgS x1 x2).bind fun y30 =>
  bif (decide (y30 < (0 : Int))) then
    some (-1)
  else
    some y30
noncomputable def C150 : Con := ⟨[(.B, true, [(.int .i64), (.sl R5)]), (.B, false, [(.int .i64)])], [(false, [(.int .i64)])], [(.int .i64), (.sl R5), (.int .i64)], [(.int .i64)], fun (p : Int × (List (Int × Int × Bool × List Int)) × Int) => f_laws_szSender p.1 p.2.1 p.2.2⟩
noncomputable abbrev K150 : Cons := [(196, C196)]
noncomputable abbrev L150 : List (Nat × Loops) := []
abbrev Q150 : List (Nat × List (Int × Nat) × Nat) := []
noncomputable abbrev X150 : Nat → Ctx := ctxOf tb K150 L150 Q150
theorem E150 : ∀ x, funRun fs X150 6 150 C150 x = C150.fn x := fun x => by kernel_rfl
theorem B150 : ConB Tryz.prog 150 C150 := ConB.make FS MIX TY (cons := K150) (L := L150) (ptrs := Q150) ⟨S196, trivial⟩ trivial trivial rfl rfl E150
theorem S150 : ConS Tryz.prog 150 C150 := B150.call rfl
/-! laws.szSenderS: function 75 -/
noncomputable def f_laws_szSenderS.l0 : Nat → (List (Int × (List (Int × Int × Bool × List Int)))) → Int → Int → Int → Option ((Int) ⊕ (Int × Int))
  | 0, _, _, _, _ => none
  | n + 1, p31, p32, p33, p34 =>
    bif (decide (p34 < (p31.length : Int))) then
      bif ((decide ((0 : Int) ≤ p34)) && (decide (p34 < (p31.length : Int)))) then
      (f_laws_szSender ((p31.getD p34.toNat (0, [])).1) ((p31.getD p34.toNat (0, [])).2) p32).bind fun y35 =>
      bif (decide (y35 < (0 : Int))) then
        some (.inl (-1))
      else
        f_laws_szSenderS.l0 n p31 y35 p33 (IntKind.wrap .i64 (p34 + (1 : Int)))
      else none
    else
      some (.inr (p32, p33))
noncomputable def f_laws_szSenderS (x0 : List (Int × (List (Int × Int × Bool × List Int)))) (x1 : Int) : Option (Int) :=
  bif (decide ((IntKind.wrap .i64 (x1 - (x0.length : Int))) < (0 : Int))) then
    some (-1)
  else
    (f_laws_szSenderS.l0 N x0 (IntKind.wrap .i64 (x1 - (x0.length : Int))) 0 0).bind fun r36 =>
    cs r36 (fun a37 =>
      some a37) (fun b38 =>
      some b38.1)
noncomputable def C75 : Con := ⟨[(.B, false, [(.sl R6)]), (.B, false, [(.int .i64)])], [(false, [(.int .i64)])], [(.sl R6), (.int .i64)], [(.int .i64)], fun (p : (List (Int × (List (Int × Int × Bool × List Int)))) × Int) => f_laws_szSenderS p.1 p.2⟩
noncomputable def f_laws_szSenderS.l0.c : LoopCon := ⟨1000, 6, [0, 1, 4, 5], ⟨[(0, .bor none R6 []), (1, .int .i64 0), (4, .int .i64 0), (5, .int .i64 0)], [], 1000⟩, [(.sl R6), (.int .i64), (.int .i64), (.int .i64)], [⟨.ret, [4], ⟨[(4, .int .i64 0)], [], 1000⟩, [(.int .i64)]⟩, ⟨.exit 0, [1, 4], ⟨[(1, .int .i64 0), (4, .int .i64 0)], [], 1000⟩, [(.int .i64), (.int .i64)]⟩], fun (p : (List (Int × (List (Int × Int × Bool × List Int)))) × Int × Int × Int) => f_laws_szSenderS.l0 N p.1 p.2.1 p.2.2.1 p.2.2.2⟩
noncomputable abbrev K75 : Cons := [(150, C150)]
noncomputable abbrev L75 : List (Nat × Loops) := [(75, [(5, f_laws_szSenderS.l0.c)])]
abbrev Q75 : List (Nat × List (Int × Nat) × Nat) := []
noncomputable abbrev X75 : Nat → Ctx := ctxOf tb K75 L75 Q75
theorem f_laws_szSenderS.l0.ok : ∀ n p, (fun (p : (List (Int × (List (Int × Int × Bool × List Int)))) × Int × Int × Int) => f_laws_szSenderS.l0 n p.1 p.2.1 p.2.2.1 p.2.2.2) p = iterD (roundOf fs X75 6 75 5 false f_laws_szSenderS.l0.c) n p :=
  iter_of (l := fun n => fun (p : (List (Int × (List (Int × Int × Bool × List Int)))) × Int × Int × Int) => f_laws_szSenderS.l0 n p.1 p.2.1 p.2.2.1 p.2.2.2) (fun _ => rfl) (fun n p => by kernel_rfl)
theorem E75 : ∀ x, funRun fs X75 6 75 C75 x = C75.fn x := fun x => by kernel_rfl
theorem B75 : ConB Tryz.prog 75 C75 := ConB.make FS MIX TY (cons := K75) (L := L75) (ptrs := Q75) ⟨S150, trivial⟩ trivial ⟨⟨⟨N, fun p => f_laws_szSenderS.l0.ok N p⟩, trivial⟩, trivial⟩ rfl rfl E75
theorem S75 : ConS Tryz.prog 75 C75 := B75.call rfl
/-! laws.szReceiverS: function 76 -/
noncomputable def f_laws_szReceiverS (x0 : List Int) (x1 : Int) : Option (Int) :=
  bif (decide ((IntKind.wrap .i64 (x1 - (x0.length : Int))) < (0 : Int))) then
    some (-1)
  else
    some (IntKind.wrap .i64 (x1 - (x0.length : Int)))
noncomputable def C76 : Con := ⟨[(.B, false, [(.sl R0)]), (.B, false, [(.int .i64)])], [(false, [(.int .i64)])], [(.sl R0), (.int .i64)], [(.int .i64)], fun (p : List Int × Int) => f_laws_szReceiverS p.1 p.2⟩
noncomputable abbrev K76 : Cons := []
noncomputable abbrev L76 : List (Nat × Loops) := []
abbrev Q76 : List (Nat × List (Int × Nat) × Nat) := []
noncomputable abbrev X76 : Nat → Ctx := ctxOf tb K76 L76 Q76
theorem E76 : ∀ x, funRun fs X76 6 76 C76 x = C76.fn x := fun x => by kernel_rfl
theorem B76 : ConB Tryz.prog 76 C76 := ConB.make FS MIX TY (cons := K76) (L := L76) (ptrs := Q76) trivial trivial trivial rfl rfl E76
theorem S76 : ConS Tryz.prog 76 C76 := B76.call rfl
/-! laws.szNode: function 18 -/
noncomputable def f_laws_szNode (x0 : Int) (x1 : List (Int × List Int × Bool)) (x2 : List (List Int × Int × List Bool × Bool × Int × Bool × Int × (List (Int × Bool)))) (x3 : List (Int × (List (Int × Int × Bool × List Int)))) (x4 : List Int) (x5 : Int) : Option (Int) :=
  (f_laws_szFrameS x1 x5).bind fun y39 =>
  bif (decide (y39 < (0 : Int))) then
    some (-1)
  else
    (f_laws_szHomeS x2 y39).bind fun y40 =>
    bif (decide (y40 < (0 : Int))) then
      some (-1)
    else
      (f_laws_szSenderS x3 y40).bind fun y41 =>
      bif (decide (y41 < (0 : Int))) then
        some (-1)
      else
        (f_laws_szReceiverS x4 y41).bind fun y42 =>
        bif (decide (y42 < (0 : Int))) then
          some (-1)
        else
          some y42
noncomputable def C18 : Con := ⟨[(.B, true, [(.int .i64), (.sl R1), (.sl R4), (.sl R6), (.sl R0)]), (.B, false, [(.int .i64)])], [(false, [(.int .i64)])], [(.int .i64), (.sl R1), (.sl R4), (.sl R6), (.sl R0), (.int .i64)], [(.int .i64)], fun (p : Int × (List (Int × List Int × Bool)) × (List (List Int × Int × List Bool × Bool × Int × Bool × Int × (List (Int × Bool)))) × (List (Int × (List (Int × Int × Bool × List Int)))) × List Int × Int) => f_laws_szNode p.1 p.2.1 p.2.2.1 p.2.2.2.1 p.2.2.2.2.1 p.2.2.2.2.2⟩
noncomputable abbrev K18 : Cons := [(73, C73), (74, C74), (75, C75), (76, C76)]
noncomputable abbrev L18 : List (Nat × Loops) := []
abbrev Q18 : List (Nat × List (Int × Nat) × Nat) := []
noncomputable abbrev X18 : Nat → Ctx := ctxOf tb K18 L18 Q18
theorem E18 : ∀ x, funRun fs X18 6 18 C18 x = C18.fn x := fun x => by kernel_rfl
theorem B18 : ConB Tryz.prog 18 C18 := ConB.make FS MIX TY (cons := K18) (L := L18) (ptrs := Q18) ⟨S73, S74, S75, S76, trivial⟩ trivial trivial rfl rfl E18
theorem S18 : ConS Tryz.prog 18 C18 := B18.call rfl
/-! laws.toIntS: function 136 -/
noncomputable def f_laws_toIntS.l0 : Nat → (List Int) → Int → (List Int) → Option (List Int)
  | 0, _, _, _ => none
  | n + 1, p43, p44, p45 =>
    bif (decide (p44 < (p43.length : Int))) then
      bif ((decide ((0 : Int) ≤ p44)) && (decide (p44 < (p43.length : Int)))) then
      bif ((decide ((0 : Int) ≤ p44)) && (decide (p44 < (p45.length : Int)))) then
      (some ((p45.set p44.toNat (p43.getD p44.toNat 0)) : List Int)).bind fun z46 =>
      f_laws_toIntS.l0 n p43 (IntKind.wrap .i64 (p44 + (1 : Int))) z46
      else none
      else none
    else
      some p45
noncomputable def f_laws_toIntS (x0 : List Int) : Option (List Int) :=
  bif (decide ((0 : Int) ≤ (x0.length : Int)) && Nat.ble (x0.length : Int).toNat 17592186044416) then
  (f_laws_toIntS.l0 N x0 0 (List.replicate (x0.length : Int).toNat 0)).bind fun r47 =>
  some r47
  else none
noncomputable def C136 : Con := ⟨[(.B, false, [(.sl R0)])], [(false, [(.sl R0)])], [(.sl R0)], [(.sl R0)], fun (p : List Int) => f_laws_toIntS p⟩
noncomputable def f_laws_toIntS.l0.c : LoopCon := ⟨1000, 6, [0, 2, 3, 4], ⟨[(0, .bor none R0 []), (2, .nil (some R0)), (3, .ref 1000 [] none), (4, .int .i64 0)], [(1000, .row R0 [])], 1001⟩, [(.sl R0), (.int .i64), (.sl R0)], [⟨.exit 0, [2, 3], ⟨[(2, .nil (some R0)), (3, .ref 1000 [] none)], [(1000, .row R0 [])], 1001⟩, [(.sl R0)]⟩], fun (p : List Int × Int × List Int) => f_laws_toIntS.l0 N p.1 p.2.1 p.2.2⟩
noncomputable abbrev K136 : Cons := []
noncomputable abbrev L136 : List (Nat × Loops) := [(136, [(3, f_laws_toIntS.l0.c)])]
abbrev Q136 : List (Nat × List (Int × Nat) × Nat) := []
noncomputable abbrev X136 : Nat → Ctx := ctxOf tb K136 L136 Q136
theorem f_laws_toIntS.l0.ok : ∀ n p, (fun (p : List Int × Int × List Int) => f_laws_toIntS.l0 n p.1 p.2.1 p.2.2) p = iterD (roundOf fs X136 6 136 3 false f_laws_toIntS.l0.c) n p :=
  iter_of (l := fun n => fun (p : List Int × Int × List Int) => f_laws_toIntS.l0 n p.1 p.2.1 p.2.2) (fun _ => rfl) (fun n p => by kernel_rfl)
theorem E136 : ∀ x, funRun fs X136 6 136 C136 x = C136.fn x := fun x => by kernel_rfl
theorem B136 : ConB Tryz.prog 136 C136 := ConB.make FS MIX TY (cons := K136) (L := L136) (ptrs := Q136) trivial trivial ⟨⟨⟨N, fun p => f_laws_toIntS.l0.ok N p⟩, trivial⟩, trivial⟩ rfl rfl E136
theorem S136 : ConS Tryz.prog 136 C136 := B136.call rfl
/-! laws.toFrame: function 155 -/
noncomputable def f_laws_toFrame (x0 : Int) (x1 : List Int) (x2 : Bool) : Option (Int × List Int × Bool) :=
  (f_laws_toIntS x1).bind fun y48 =>
  some (x0, y48, x2)
noncomputable def C155 : Con := ⟨[(.B, true, [(.int .i64), (.sl R0), .bool])], [(true, [(.int .i64), (.sl R0), .bool])], [(.int .i64), (.sl R0), .bool], [(.int .i64), (.sl R0), .bool], fun (p : Int × List Int × Bool) => f_laws_toFrame p.1 p.2.1 p.2.2⟩
noncomputable abbrev K155 : Cons := [(136, C136)]
noncomputable abbrev L155 : List (Nat × Loops) := []
abbrev Q155 : List (Nat × List (Int × Nat) × Nat) := []
noncomputable abbrev X155 : Nat → Ctx := ctxOf tb K155 L155 Q155
theorem E155 : ∀ x, funRun fs X155 6 155 C155 x = C155.fn x := fun x => by kernel_rfl
theorem B155 : ConB Tryz.prog 155 C155 := ConB.make FS MIX TY (cons := K155) (L := L155) (ptrs := Q155) ⟨S136, trivial⟩ trivial trivial rfl rfl E155
theorem S155 : ConS Tryz.prog 155 C155 := B155.call rfl
/-! laws.toFrameS: function 80 -/
noncomputable def f_laws_toFrameS.l0 : Nat → (List (Int × List Int × Bool)) → Int → (List (Int × List Int × Bool)) → Option ((List (Int × List Int × Bool)))
  | 0, _, _, _ => none
  | n + 1, p49, p50, p51 =>
    bif (decide (p50 < (p49.length : Int))) then
      bif ((decide ((0 : Int) ≤ p50)) && (decide (p50 < (p49.length : Int)))) then
      (f_laws_toFrame ((p49.getD p50.toNat (0, [], false)).1) ((p49.getD p50.toNat (0, [], false)).2.1) ((p49.getD p50.toNat (0, [], false)).2.2)).bind fun y52 =>
      bif ((decide ((0 : Int) ≤ p50)) && (decide (p50 < (p51.length : Int)))) then
      (some ((p51.set p50.toNat (y52.1, y52.2.1, y52.2.2)) : List (Int × List Int × Bool))).bind fun z53 =>
      f_laws_toFrameS.l0 n p49 (IntKind.wrap .i64 (p50 + (1 : Int))) z53
      else none
      else none
    else
      some p51
noncomputable def f_laws_toFrameS (x0 : List (Int × List Int × Bool)) : Option ((List (Int × List Int × Bool))) :=
  bif (decide ((0 : Int) ≤ (x0.length : Int)) && Nat.ble (x0.length : Int).toNat 3518437208883) then
  (f_laws_toFrameS.l0 N x0 0 (List.replicate (x0.length : Int).toNat (0, [], false))).bind fun r54 =>
  some r54
  else none
noncomputable def C80 : Con := ⟨[(.B, false, [(.sl R1)])], [(false, [(.sl R1)])], [(.sl R1)], [(.sl R1)], fun (p : (List (Int × List Int × Bool))) => f_laws_toFrameS p⟩
noncomputable def f_laws_toFrameS.l0.c : LoopCon := ⟨1000, 6, [0, 2, 3, 4], ⟨[(0, .bor none R1 []), (2, .nil (some R1)), (3, .ref 1000 [] none), (4, .int .i64 0)], [(1000, .row R1 [])], 1001⟩, [(.sl R1), (.int .i64), (.sl R1)], [⟨.exit 0, [2, 3], ⟨[(2, .nil (some R1)), (3, .ref 1000 [] none)], [(1000, .row R1 [])], 1001⟩, [(.sl R1)]⟩], fun (p : (List (Int × List Int × Bool)) × Int × (List (Int × List Int × Bool))) => f_laws_toFrameS.l0 N p.1 p.2.1 p.2.2⟩
noncomputable abbrev K80 : Cons := [(155, C155)]
noncomputable abbrev L80 : List (Nat × Loops) := [(80, [(3, f_laws_toFrameS.l0.c)])]
abbrev Q80 : List (Nat × List (Int × Nat) × Nat) := []
noncomputable abbrev X80 : Nat → Ctx := ctxOf tb K80 L80 Q80
theorem f_laws_toFrameS.l0.ok : ∀ n p, (fun (p : (List (Int × List Int × Bool)) × Int × (List (Int × List Int × Bool))) => f_laws_toFrameS.l0 n p.1 p.2.1 p.2.2) p = iterD (roundOf fs X80 6 80 3 false f_laws_toFrameS.l0.c) n p :=
  iter_of (l := fun n => fun (p : (List (Int × List Int × Bool)) × Int × (List (Int × List Int × Bool))) => f_laws_toFrameS.l0 n p.1 p.2.1 p.2.2) (fun _ => rfl) (fun n p => by kernel_rfl)
theorem E80 : ∀ x, funRun fs X80 6 80 C80 x = C80.fn x := fun x => by kernel_rfl
theorem B80 : ConB Tryz.prog 80 C80 := ConB.make FS MIX TY (cons := K80) (L := L80) (ptrs := Q80) ⟨S155, trivial⟩ trivial ⟨⟨⟨N, fun p => f_laws_toFrameS.l0.ok N p⟩, trivial⟩, trivial⟩ rfl rfl E80
theorem S80 : ConS Tryz.prog 80 C80 := B80.call rfl
/-! laws.toBoolS: function 197 -/
noncomputable def f_laws_toBoolS.l0 : Nat → (List Bool) → Int → (List Bool) → Option (List Bool)
  | 0, _, _, _ => none
  | n + 1, p55, p56, p57 =>
    bif (decide (p56 < (p55.length : Int))) then
      bif ((decide ((0 : Int) ≤ p56)) && (decide (p56 < (p55.length : Int)))) then
      bif ((decide ((0 : Int) ≤ p56)) && (decide (p56 < (p57.length : Int)))) then
      (some ((p57.set p56.toNat (p55.getD p56.toNat false)) : List Bool)).bind fun z58 =>
      f_laws_toBoolS.l0 n p55 (IntKind.wrap .i64 (p56 + (1 : Int))) z58
      else none
      else none
    else
      some p57
noncomputable def f_laws_toBoolS (x0 : List Bool) : Option (List Bool) :=
  bif (decide ((0 : Int) ≤ (x0.length : Int)) && Nat.ble (x0.length : Int).toNat 140737488355328) then
  (f_laws_toBoolS.l0 N x0 0 (List.replicate (x0.length : Int).toNat false)).bind fun r59 =>
  some r59
  else none
noncomputable def C197 : Con := ⟨[(.B, false, [(.sl R2)])], [(false, [(.sl R2)])], [(.sl R2)], [(.sl R2)], fun (p : List Bool) => f_laws_toBoolS p⟩
noncomputable def f_laws_toBoolS.l0.c : LoopCon := ⟨1000, 6, [0, 2, 3, 4], ⟨[(0, .bor none R2 []), (2, .nil (some R2)), (3, .ref 1000 [] none), (4, .int .i64 0)], [(1000, .row R2 [])], 1001⟩, [(.sl R2), (.int .i64), (.sl R2)], [⟨.exit 0, [2, 3], ⟨[(2, .nil (some R2)), (3, .ref 1000 [] none)], [(1000, .row R2 [])], 1001⟩, [(.sl R2)]⟩], fun (p : List Bool × Int × List Bool) => f_laws_toBoolS.l0 N p.1 p.2.1 p.2.2⟩
noncomputable abbrev K197 : Cons := []
noncomputable abbrev L197 : List (Nat × Loops) := [(197, [(3, f_laws_toBoolS.l0.c)])]
abbrev Q197 : List (Nat × List (Int × Nat) × Nat) := []
noncomputable abbrev X197 : Nat → Ctx := ctxOf tb K197 L197 Q197
theorem f_laws_toBoolS.l0.ok : ∀ n p, (fun (p : List Bool × Int × List Bool) => f_laws_toBoolS.l0 n p.1 p.2.1 p.2.2) p = iterD (roundOf fs X197 6 197 3 false f_laws_toBoolS.l0.c) n p :=
  iter_of (l := fun n => fun (p : List Bool × Int × List Bool) => f_laws_toBoolS.l0 n p.1 p.2.1 p.2.2) (fun _ => rfl) (fun n p => by kernel_rfl)
theorem E197 : ∀ x, funRun fs X197 6 197 C197 x = C197.fn x := fun x => by kernel_rfl
theorem B197 : ConB Tryz.prog 197 C197 := ConB.make FS MIX TY (cons := K197) (L := L197) (ptrs := Q197) trivial trivial ⟨⟨⟨N, fun p => f_laws_toBoolS.l0.ok N p⟩, trivial⟩, trivial⟩ rfl rfl E197
theorem S197 : ConS Tryz.prog 197 C197 := B197.call rfl
/-! laws.toWait: function 198 -/
noncomputable def f_laws_toWait (x0 : Int) (x1 : Bool) : Option (Int × Bool) :=
  some (x0, x1)
noncomputable def C198 : Con := ⟨[(.B, true, [(.int .i64), .bool])], [(true, [(.int .i64), .bool])], [(.int .i64), .bool], [(.int .i64), .bool], fun (p : Int × Bool) => f_laws_toWait p.1 p.2⟩
noncomputable abbrev K198 : Cons := []
noncomputable abbrev L198 : List (Nat × Loops) := []
abbrev Q198 : List (Nat × List (Int × Nat) × Nat) := []
noncomputable abbrev X198 : Nat → Ctx := ctxOf tb K198 L198 Q198
theorem E198 : ∀ x, funRun fs X198 6 198 C198 x = C198.fn x := fun x => by kernel_rfl
theorem B198 : ConB Tryz.prog 198 C198 := ConB.make FS MIX TY (cons := K198) (L := L198) (ptrs := Q198) trivial trivial trivial rfl rfl E198
theorem S198 : ConS Tryz.prog 198 C198 := B198.call rfl
/-! laws.toWaitS: function 199 -/
noncomputable def f_laws_toWaitS.l0 : Nat → (List (Int × Bool)) → Int → (List (Int × Bool)) → Option ((List (Int × Bool)))
  | 0, _, _, _ => none
  | n + 1, p60, p61, p62 =>
    bif (decide (p61 < (p60.length : Int))) then
      bif ((decide ((0 : Int) ≤ p61)) && (decide (p61 < (p60.length : Int)))) then
      (f_laws_toWait ((p60.getD p61.toNat (0, false)).1) ((p60.getD p61.toNat (0, false)).2)).bind fun y63 =>
      bif ((decide ((0 : Int) ≤ p61)) && (decide (p61 < (p62.length : Int)))) then
      (some ((p62.set p61.toNat (y63.1, y63.2)) : List (Int × Bool))).bind fun z64 =>
      f_laws_toWaitS.l0 n p60 (IntKind.wrap .i64 (p61 + (1 : Int))) z64
      else none
      else none
    else
      some p62
noncomputable def f_laws_toWaitS (x0 : List (Int × Bool)) : Option ((List (Int × Bool))) :=
  bif (decide ((0 : Int) ≤ (x0.length : Int)) && Nat.ble (x0.length : Int).toNat 8796093022208) then
  (f_laws_toWaitS.l0 N x0 0 (List.replicate (x0.length : Int).toNat (0, false))).bind fun r65 =>
  some r65
  else none
noncomputable def C199 : Con := ⟨[(.B, false, [(.sl R3)])], [(false, [(.sl R3)])], [(.sl R3)], [(.sl R3)], fun (p : (List (Int × Bool))) => f_laws_toWaitS p⟩
noncomputable def f_laws_toWaitS.l0.c : LoopCon := ⟨1000, 6, [0, 2, 3, 4], ⟨[(0, .bor none R3 []), (2, .nil (some R3)), (3, .ref 1000 [] none), (4, .int .i64 0)], [(1000, .row R3 [])], 1001⟩, [(.sl R3), (.int .i64), (.sl R3)], [⟨.exit 0, [2, 3], ⟨[(2, .nil (some R3)), (3, .ref 1000 [] none)], [(1000, .row R3 [])], 1001⟩, [(.sl R3)]⟩], fun (p : (List (Int × Bool)) × Int × (List (Int × Bool))) => f_laws_toWaitS.l0 N p.1 p.2.1 p.2.2⟩
noncomputable abbrev K199 : Cons := [(198, C198)]
noncomputable abbrev L199 : List (Nat × Loops) := [(199, [(3, f_laws_toWaitS.l0.c)])]
abbrev Q199 : List (Nat × List (Int × Nat) × Nat) := []
noncomputable abbrev X199 : Nat → Ctx := ctxOf tb K199 L199 Q199
theorem f_laws_toWaitS.l0.ok : ∀ n p, (fun (p : (List (Int × Bool)) × Int × (List (Int × Bool))) => f_laws_toWaitS.l0 n p.1 p.2.1 p.2.2) p = iterD (roundOf fs X199 6 199 3 false f_laws_toWaitS.l0.c) n p :=
  iter_of (l := fun n => fun (p : (List (Int × Bool)) × Int × (List (Int × Bool))) => f_laws_toWaitS.l0 n p.1 p.2.1 p.2.2) (fun _ => rfl) (fun n p => by kernel_rfl)
theorem E199 : ∀ x, funRun fs X199 6 199 C199 x = C199.fn x := fun x => by kernel_rfl
theorem B199 : ConB Tryz.prog 199 C199 := ConB.make FS MIX TY (cons := K199) (L := L199) (ptrs := Q199) ⟨S198, trivial⟩ trivial ⟨⟨⟨N, fun p => f_laws_toWaitS.l0.ok N p⟩, trivial⟩, trivial⟩ rfl rfl E199
theorem S199 : ConS Tryz.prog 199 C199 := B199.call rfl
/-! laws.toHome: function 156 -/
noncomputable def f_laws_toHome (x0 : List Int) (x1 : Int) (x2 : List Bool) (x3 : Bool) (x4 : Int) (x5 : Bool) (x6 : Int) (x7 : List (Int × Bool)) : Option (List Int × Int × List Bool × Bool × Int × Bool × Int × (List (Int × Bool))) :=
  (f_laws_toIntS x0).bind fun y66 =>
  (f_laws_toBoolS x2).bind fun y67 =>
  (f_laws_toWait x4 x5).bind fun y68 =>
  (f_laws_toWaitS x7).bind fun y69 =>
  some (y66, x1, y67, x3, y68.1, y68.2, x6, y69)
noncomputable def C156 : Con := ⟨[(.B, true, [(.sl R0), (.int .i64), (.sl R2), .bool, (.int .i64), .bool, (.int .i64), (.sl R3)])], [(true, [(.sl R0), (.int .i64), (.sl R2), .bool, (.int .i64), .bool, (.int .i64), (.sl R3)])], [(.sl R0), (.int .i64), (.sl R2), .bool, (.int .i64), .bool, (.int .i64), (.sl R3)], [(.sl R0), (.int .i64), (.sl R2), .bool, (.int .i64), .bool, (.int .i64), (.sl R3)], fun (p : List Int × Int × List Bool × Bool × Int × Bool × Int × (List (Int × Bool))) => f_laws_toHome p.1 p.2.1 p.2.2.1 p.2.2.2.1 p.2.2.2.2.1 p.2.2.2.2.2.1 p.2.2.2.2.2.2.1 p.2.2.2.2.2.2.2⟩
noncomputable abbrev K156 : Cons := [(136, C136), (197, C197), (198, C198), (199, C199)]
noncomputable abbrev L156 : List (Nat × Loops) := []
abbrev Q156 : List (Nat × List (Int × Nat) × Nat) := []
noncomputable abbrev X156 : Nat → Ctx := ctxOf tb K156 L156 Q156
theorem E156 : ∀ x, funRun fs X156 6 156 C156 x = C156.fn x := fun x => by kernel_rfl
theorem B156 : ConB Tryz.prog 156 C156 := ConB.make FS MIX TY (cons := K156) (L := L156) (ptrs := Q156) ⟨S136, S197, S198, S199, trivial⟩ trivial trivial rfl rfl E156
theorem S156 : ConS Tryz.prog 156 C156 := B156.call rfl
/-! laws.toHomeS: function 81 -/
noncomputable def f_laws_toHomeS.l0 : Nat → (List (List Int × Int × List Bool × Bool × Int × Bool × Int × (List (Int × Bool)))) → Int → (List (List Int × Int × List Bool × Bool × Int × Bool × Int × (List (Int × Bool)))) → Option ((List (List Int × Int × List Bool × Bool × Int × Bool × Int × (List (Int × Bool)))))
  | 0, _, _, _ => none
  | n + 1, p70, p71, p72 =>
    bif (decide (p71 < (p70.length : Int))) then
      bif ((decide ((0 : Int) ≤ p71)) && (decide (p71 < (p70.length : Int)))) then
      (f_laws_toHome ((p70.getD p71.toNat ([], 0, [], false, 0, false, 0, [])).1) ((p70.getD p71.toNat ([], 0, [], false, 0, false, 0, [])).2.1) ((p70.getD p71.toNat ([], 0, [], false, 0, false, 0, [])).2.2.1) ((p70.getD p71.toNat ([], 0, [], false, 0, false, 0, [])).2.2.2.1) ((p70.getD p71.toNat ([], 0, [], false, 0, false, 0, [])).2.2.2.2.1) ((p70.getD p71.toNat ([], 0, [], false, 0, false, 0, [])).2.2.2.2.2.1) ((p70.getD p71.toNat ([], 0, [], false, 0, false, 0, [])).2.2.2.2.2.2.1) ((p70.getD p71.toNat ([], 0, [], false, 0, false, 0, [])).2.2.2.2.2.2.2)).bind fun y73 =>
      bif ((decide ((0 : Int) ≤ p71)) && (decide (p71 < (p72.length : Int)))) then
      (some ((p72.set p71.toNat (y73.1, y73.2.1, y73.2.2.1, y73.2.2.2.1, y73.2.2.2.2.1, y73.2.2.2.2.2.1, y73.2.2.2.2.2.2.1, y73.2.2.2.2.2.2.2)) : List (List Int × Int × List Bool × Bool × Int × Bool × Int × (List (Int × Bool))))).bind fun z74 =>
      f_laws_toHomeS.l0 n p70 (IntKind.wrap .i64 (p71 + (1 : Int))) z74
      else none
      else none
    else
      some p72
noncomputable def f_laws_toHomeS (x0 : List (List Int × Int × List Bool × Bool × Int × Bool × Int × (List (Int × Bool)))) : Option ((List (List Int × Int × List Bool × Bool × Int × Bool × Int × (List (Int × Bool))))) :=
  bif (decide ((0 : Int) ≤ (x0.length : Int)) && Nat.ble (x0.length : Int).toNat 1256584717458) then
  (f_laws_toHomeS.l0 N x0 0 (List.replicate (x0.length : Int).toNat ([], 0, [], false, 0, false, 0, []))).bind fun r75 =>
  some r75
  else none
noncomputable def C81 : Con := ⟨[(.B, false, [(.sl R4)])], [(false, [(.sl R4)])], [(.sl R4)], [(.sl R4)], fun (p : (List (List Int × Int × List Bool × Bool × Int × Bool × Int × (List (Int × Bool))))) => f_laws_toHomeS p⟩
noncomputable def f_laws_toHomeS.l0.c : LoopCon := ⟨1000, 6, [0, 2, 3, 4], ⟨[(0, .bor none R4 []), (2, .nil (some R4)), (3, .ref 1000 [] none), (4, .int .i64 0)], [(1000, .row R4 [])], 1001⟩, [(.sl R4), (.int .i64), (.sl R4)], [⟨.exit 0, [2, 3], ⟨[(2, .nil (some R4)), (3, .ref 1000 [] none)], [(1000, .row R4 [])], 1001⟩, [(.sl R4)]⟩], fun (p : (List (List Int × Int × List Bool × Bool × Int × Bool × Int × (List (Int × Bool)))) × Int × (List (List Int × Int × List Bool × Bool × Int × Bool × Int × (List (Int × Bool))))) => f_laws_toHomeS.l0 N p.1 p.2.1 p.2.2⟩
noncomputable abbrev K81 : Cons := [(156, C156)]
noncomputable abbrev L81 : List (Nat × Loops) := [(81, [(3, f_laws_toHomeS.l0.c)])]
abbrev Q81 : List (Nat × List (Int × Nat) × Nat) := []
noncomputable abbrev X81 : Nat → Ctx := ctxOf tb K81 L81 Q81
theorem f_laws_toHomeS.l0.ok : ∀ n p, (fun (p : (List (List Int × Int × List Bool × Bool × Int × Bool × Int × (List (Int × Bool)))) × Int × (List (List Int × Int × List Bool × Bool × Int × Bool × Int × (List (Int × Bool))))) => f_laws_toHomeS.l0 n p.1 p.2.1 p.2.2) p = iterD (roundOf fs X81 6 81 3 false f_laws_toHomeS.l0.c) n p :=
  iter_of (l := fun n => fun (p : (List (List Int × Int × List Bool × Bool × Int × Bool × Int × (List (Int × Bool)))) × Int × (List (List Int × Int × List Bool × Bool × Int × Bool × Int × (List (Int × Bool))))) => f_laws_toHomeS.l0 n p.1 p.2.1 p.2.2) (fun _ => rfl) (fun n p => by kernel_rfl)
theorem E81 : ∀ x, funRun fs X81 6 81 C81 x = C81.fn x := fun x => by kernel_rfl
theorem B81 : ConB Tryz.prog 81 C81 := ConB.make FS MIX TY (cons := K81) (L := L81) (ptrs := Q81) ⟨S156, trivial⟩ trivial ⟨⟨⟨N, fun p => f_laws_toHomeS.l0.ok N p⟩, trivial⟩, trivial⟩ rfl rfl E81
theorem S81 : ConS Tryz.prog 81 C81 := B81.call rfl
/-! laws.toMsg: function 54 -/
noncomputable def f_laws_toMsg (x0 : Int) (x1 : Int) (x2 : Bool) (x3 : List Int) : Option (Int × Int × Bool × List Int) :=
  (f_laws_toIntS x3).bind fun y76 =>
  some (x0, x1, x2, y76)
noncomputable def C54 : Con := ⟨[(.B, true, [(.int .i64), (.int .i64), .bool, (.sl R0)])], [(true, [(.int .i64), (.int .i64), .bool, (.sl R0)])], [(.int .i64), (.int .i64), .bool, (.sl R0)], [(.int .i64), (.int .i64), .bool, (.sl R0)], fun (p : Int × Int × Bool × List Int) => f_laws_toMsg p.1 p.2.1 p.2.2.1 p.2.2.2⟩
noncomputable abbrev K54 : Cons := [(136, C136)]
noncomputable abbrev L54 : List (Nat × Loops) := []
abbrev Q54 : List (Nat × List (Int × Nat) × Nat) := []
noncomputable abbrev X54 : Nat → Ctx := ctxOf tb K54 L54 Q54
theorem E54 : ∀ x, funRun fs X54 6 54 C54 x = C54.fn x := fun x => by kernel_rfl
theorem B54 : ConB Tryz.prog 54 C54 := ConB.make FS MIX TY (cons := K54) (L := L54) (ptrs := Q54) ⟨S136, trivial⟩ trivial trivial rfl rfl E54
theorem S54 : ConS Tryz.prog 54 C54 := B54.call rfl
/-! laws.toMsgS: function 200 -/
noncomputable def f_laws_toMsgS.l0 : Nat → (List (Int × Int × Bool × List Int)) → Int → (List (Int × Int × Bool × List Int)) → Option ((List (Int × Int × Bool × List Int)))
  | 0, _, _, _ => none
  | n + 1, p77, p78, p79 =>
    bif (decide (p78 < (p77.length : Int))) then
      bif ((decide ((0 : Int) ≤ p78)) && (decide (p78 < (p77.length : Int)))) then
      (f_laws_toMsg ((p77.getD p78.toNat (0, 0, false, [])).1) ((p77.getD p78.toNat (0, 0, false, [])).2.1) ((p77.getD p78.toNat (0, 0, false, [])).2.2.1) ((p77.getD p78.toNat (0, 0, false, [])).2.2.2)).bind fun y80 =>
      bif ((decide ((0 : Int) ≤ p78)) && (decide (p78 < (p79.length : Int)))) then
      (some ((p79.set p78.toNat (y80.1, y80.2.1, y80.2.2.1, y80.2.2.2)) : List (Int × Int × Bool × List Int))).bind fun z81 =>
      f_laws_toMsgS.l0 n p77 (IntKind.wrap .i64 (p78 + (1 : Int))) z81
      else none
      else none
    else
      some p79
noncomputable def f_laws_toMsgS (x0 : List (Int × Int × Bool × List Int)) : Option ((List (Int × Int × Bool × List Int))) :=
  bif (decide ((0 : Int) ≤ (x0.length : Int)) && Nat.ble (x0.length : Int).toNat 2932031007402) then
  (f_laws_toMsgS.l0 N x0 0 (List.replicate (x0.length : Int).toNat (0, 0, false, []))).bind fun r82 =>
  some r82
  else none
noncomputable def C200 : Con := ⟨[(.B, false, [(.sl R5)])], [(false, [(.sl R5)])], [(.sl R5)], [(.sl R5)], fun (p : (List (Int × Int × Bool × List Int))) => f_laws_toMsgS p⟩
noncomputable def f_laws_toMsgS.l0.c : LoopCon := ⟨1000, 6, [0, 2, 3, 4], ⟨[(0, .bor none R5 []), (2, .nil (some R5)), (3, .ref 1000 [] none), (4, .int .i64 0)], [(1000, .row R5 [])], 1001⟩, [(.sl R5), (.int .i64), (.sl R5)], [⟨.exit 0, [2, 3], ⟨[(2, .nil (some R5)), (3, .ref 1000 [] none)], [(1000, .row R5 [])], 1001⟩, [(.sl R5)]⟩], fun (p : (List (Int × Int × Bool × List Int)) × Int × (List (Int × Int × Bool × List Int))) => f_laws_toMsgS.l0 N p.1 p.2.1 p.2.2⟩
noncomputable abbrev K200 : Cons := [(54, C54)]
noncomputable abbrev L200 : List (Nat × Loops) := [(200, [(3, f_laws_toMsgS.l0.c)])]
abbrev Q200 : List (Nat × List (Int × Nat) × Nat) := []
noncomputable abbrev X200 : Nat → Ctx := ctxOf tb K200 L200 Q200
theorem f_laws_toMsgS.l0.ok : ∀ n p, (fun (p : (List (Int × Int × Bool × List Int)) × Int × (List (Int × Int × Bool × List Int))) => f_laws_toMsgS.l0 n p.1 p.2.1 p.2.2) p = iterD (roundOf fs X200 6 200 3 false f_laws_toMsgS.l0.c) n p :=
  iter_of (l := fun n => fun (p : (List (Int × Int × Bool × List Int)) × Int × (List (Int × Int × Bool × List Int))) => f_laws_toMsgS.l0 n p.1 p.2.1 p.2.2) (fun _ => rfl) (fun n p => by kernel_rfl)
theorem E200 : ∀ x, funRun fs X200 6 200 C200 x = C200.fn x := fun x => by kernel_rfl
theorem B200 : ConB Tryz.prog 200 C200 := ConB.make FS MIX TY (cons := K200) (L := L200) (ptrs := Q200) ⟨S54, trivial⟩ trivial ⟨⟨⟨N, fun p => f_laws_toMsgS.l0.ok N p⟩, trivial⟩, trivial⟩ rfl rfl E200
theorem S200 : ConS Tryz.prog 200 C200 := B200.call rfl
/-! laws.toSender: function 157 -/
noncomputable def f_laws_toSender (x0 : Int) (x1 : List (Int × Int × Bool × List Int)) : Option (Int × (List (Int × Int × Bool × List Int))) :=
  (f_laws_toMsgS x1).bind fun y83 =>
  some (x0, y83)
noncomputable def C157 : Con := ⟨[(.B, true, [(.int .i64), (.sl R5)])], [(true, [(.int .i64), (.sl R5)])], [(.int .i64), (.sl R5)], [(.int .i64), (.sl R5)], fun (p : Int × (List (Int × Int × Bool × List Int))) => f_laws_toSender p.1 p.2⟩
noncomputable abbrev K157 : Cons := [(200, C200)]
noncomputable abbrev L157 : List (Nat × Loops) := []
abbrev Q157 : List (Nat × List (Int × Nat) × Nat) := []
noncomputable abbrev X157 : Nat → Ctx := ctxOf tb K157 L157 Q157
theorem E157 : ∀ x, funRun fs X157 6 157 C157 x = C157.fn x := fun x => by kernel_rfl
theorem B157 : ConB Tryz.prog 157 C157 := ConB.make FS MIX TY (cons := K157) (L := L157) (ptrs := Q157) ⟨S200, trivial⟩ trivial trivial rfl rfl E157
theorem S157 : ConS Tryz.prog 157 C157 := B157.call rfl
/-! laws.toSenderS: function 82 -/
noncomputable def f_laws_toSenderS.l0 : Nat → (List (Int × (List (Int × Int × Bool × List Int)))) → Int → (List (Int × (List (Int × Int × Bool × List Int)))) → Option ((List (Int × (List (Int × Int × Bool × List Int)))))
  | 0, _, _, _ => none
  | n + 1, p84, p85, p86 =>
    bif (decide (p85 < (p84.length : Int))) then
      bif ((decide ((0 : Int) ≤ p85)) && (decide (p85 < (p84.length : Int)))) then
      (f_laws_toSender ((p84.getD p85.toNat (0, [])).1) ((p84.getD p85.toNat (0, [])).2)).bind fun y87 =>
      bif ((decide ((0 : Int) ≤ p85)) && (decide (p85 < (p86.length : Int)))) then
      (some ((p86.set p85.toNat (y87.1, y87.2)) : List (Int × (List (Int × Int × Bool × List Int))))).bind fun z88 =>
      f_laws_toSenderS.l0 n p84 (IntKind.wrap .i64 (p85 + (1 : Int))) z88
      else none
      else none
    else
      some p86
noncomputable def f_laws_toSenderS (x0 : List (Int × (List (Int × Int × Bool × List Int)))) : Option ((List (Int × (List (Int × Int × Bool × List Int))))) :=
  bif (decide ((0 : Int) ≤ (x0.length : Int)) && Nat.ble (x0.length : Int).toNat 4398046511104) then
  (f_laws_toSenderS.l0 N x0 0 (List.replicate (x0.length : Int).toNat (0, []))).bind fun r89 =>
  some r89
  else none
noncomputable def C82 : Con := ⟨[(.B, false, [(.sl R6)])], [(false, [(.sl R6)])], [(.sl R6)], [(.sl R6)], fun (p : (List (Int × (List (Int × Int × Bool × List Int))))) => f_laws_toSenderS p⟩
noncomputable def f_laws_toSenderS.l0.c : LoopCon := ⟨1000, 6, [0, 2, 3, 4], ⟨[(0, .bor none R6 []), (2, .nil (some R6)), (3, .ref 1000 [] none), (4, .int .i64 0)], [(1000, .row R6 [])], 1001⟩, [(.sl R6), (.int .i64), (.sl R6)], [⟨.exit 0, [2, 3], ⟨[(2, .nil (some R6)), (3, .ref 1000 [] none)], [(1000, .row R6 [])], 1001⟩, [(.sl R6)]⟩], fun (p : (List (Int × (List (Int × Int × Bool × List Int)))) × Int × (List (Int × (List (Int × Int × Bool × List Int))))) => f_laws_toSenderS.l0 N p.1 p.2.1 p.2.2⟩
noncomputable abbrev K82 : Cons := [(157, C157)]
noncomputable abbrev L82 : List (Nat × Loops) := [(82, [(3, f_laws_toSenderS.l0.c)])]
abbrev Q82 : List (Nat × List (Int × Nat) × Nat) := []
noncomputable abbrev X82 : Nat → Ctx := ctxOf tb K82 L82 Q82
theorem f_laws_toSenderS.l0.ok : ∀ n p, (fun (p : (List (Int × (List (Int × Int × Bool × List Int)))) × Int × (List (Int × (List (Int × Int × Bool × List Int))))) => f_laws_toSenderS.l0 n p.1 p.2.1 p.2.2) p = iterD (roundOf fs X82 6 82 3 false f_laws_toSenderS.l0.c) n p :=
  iter_of (l := fun n => fun (p : (List (Int × (List (Int × Int × Bool × List Int)))) × Int × (List (Int × (List (Int × Int × Bool × List Int))))) => f_laws_toSenderS.l0 n p.1 p.2.1 p.2.2) (fun _ => rfl) (fun n p => by kernel_rfl)
theorem E82 : ∀ x, funRun fs X82 6 82 C82 x = C82.fn x := fun x => by kernel_rfl
theorem B82 : ConB Tryz.prog 82 C82 := ConB.make FS MIX TY (cons := K82) (L := L82) (ptrs := Q82) ⟨S157, trivial⟩ trivial ⟨⟨⟨N, fun p => f_laws_toSenderS.l0.ok N p⟩, trivial⟩, trivial⟩ rfl rfl E82
theorem S82 : ConS Tryz.prog 82 C82 := B82.call rfl
/-! laws.toReceiver: function 158 -/
noncomputable def f_laws_toReceiver (x0 : Int) : Option (Int) :=
  some x0
noncomputable def C158 : Con := ⟨[(.B, true, [(.int .i64)])], [(true, [(.int .i64)])], [(.int .i64)], [(.int .i64)], fun (p : Int) => f_laws_toReceiver p⟩
noncomputable abbrev K158 : Cons := []
noncomputable abbrev L158 : List (Nat × Loops) := []
abbrev Q158 : List (Nat × List (Int × Nat) × Nat) := []
noncomputable abbrev X158 : Nat → Ctx := ctxOf tb K158 L158 Q158
theorem E158 : ∀ x, funRun fs X158 6 158 C158 x = C158.fn x := fun x => by kernel_rfl
theorem B158 : ConB Tryz.prog 158 C158 := ConB.make FS MIX TY (cons := K158) (L := L158) (ptrs := Q158) trivial trivial trivial rfl rfl E158
theorem S158 : ConS Tryz.prog 158 C158 := B158.call rfl
/-! laws.toReceiverS: function 83 -/
noncomputable def f_laws_toReceiverS.l0 : Nat → (List Int) → Int → (List Int) → Option (List Int)
  | 0, _, _, _ => none
  | n + 1, p90, p91, p92 =>
    bif (decide (p91 < (p90.length : Int))) then
      bif ((decide ((0 : Int) ≤ p91)) && (decide (p91 < (p90.length : Int)))) then
      (f_laws_toReceiver (p90.getD p91.toNat 0)).bind fun y93 =>
      bif ((decide ((0 : Int) ≤ p91)) && (decide (p91 < (p92.length : Int)))) then
      (some ((p92.set p91.toNat y93) : List Int)).bind fun z94 =>
      f_laws_toReceiverS.l0 n p90 (IntKind.wrap .i64 (p91 + (1 : Int))) z94
      else none
      else none
    else
      some p92
noncomputable def f_laws_toReceiverS (x0 : List Int) : Option (List Int) :=
  bif (decide ((0 : Int) ≤ (x0.length : Int)) && Nat.ble (x0.length : Int).toNat 17592186044416) then
  (f_laws_toReceiverS.l0 N x0 0 (List.replicate (x0.length : Int).toNat 0)).bind fun r95 =>
  some r95
  else none
noncomputable def C83 : Con := ⟨[(.B, false, [(.sl R0)])], [(false, [(.sl R0)])], [(.sl R0)], [(.sl R0)], fun (p : List Int) => f_laws_toReceiverS p⟩
noncomputable def f_laws_toReceiverS.l0.c : LoopCon := ⟨1000, 6, [0, 2, 3, 4], ⟨[(0, .bor none R0 []), (2, .nil (some R0)), (3, .ref 1000 [] none), (4, .int .i64 0)], [(1000, .row R0 [])], 1001⟩, [(.sl R0), (.int .i64), (.sl R0)], [⟨.exit 0, [2, 3], ⟨[(2, .nil (some R0)), (3, .ref 1000 [] none)], [(1000, .row R0 [])], 1001⟩, [(.sl R0)]⟩], fun (p : List Int × Int × List Int) => f_laws_toReceiverS.l0 N p.1 p.2.1 p.2.2⟩
noncomputable abbrev K83 : Cons := [(158, C158)]
noncomputable abbrev L83 : List (Nat × Loops) := [(83, [(3, f_laws_toReceiverS.l0.c)])]
abbrev Q83 : List (Nat × List (Int × Nat) × Nat) := []
noncomputable abbrev X83 : Nat → Ctx := ctxOf tb K83 L83 Q83
theorem f_laws_toReceiverS.l0.ok : ∀ n p, (fun (p : List Int × Int × List Int) => f_laws_toReceiverS.l0 n p.1 p.2.1 p.2.2) p = iterD (roundOf fs X83 6 83 3 false f_laws_toReceiverS.l0.c) n p :=
  iter_of (l := fun n => fun (p : List Int × Int × List Int) => f_laws_toReceiverS.l0 n p.1 p.2.1 p.2.2) (fun _ => rfl) (fun n p => by kernel_rfl)
theorem E83 : ∀ x, funRun fs X83 6 83 C83 x = C83.fn x := fun x => by kernel_rfl
theorem B83 : ConB Tryz.prog 83 C83 := ConB.make FS MIX TY (cons := K83) (L := L83) (ptrs := Q83) ⟨S158, trivial⟩ trivial ⟨⟨⟨N, fun p => f_laws_toReceiverS.l0.ok N p⟩, trivial⟩, trivial⟩ rfl rfl E83
theorem S83 : ConS Tryz.prog 83 C83 := B83.call rfl
/-! laws.toNode: function 20 -/
noncomputable def f_laws_toNode (x0 : Int) (x1 : List (Int × List Int × Bool)) (x2 : List (List Int × Int × List Bool × Bool × Int × Bool × Int × (List (Int × Bool)))) (x3 : List (Int × (List (Int × Int × Bool × List Int)))) (x4 : List Int) : Option (Int × (List (Int × List Int × Bool)) × (List (List Int × Int × List Bool × Bool × Int × Bool × Int × (List (Int × Bool)))) × (List (Int × (List (Int × Int × Bool × List Int)))) × List Int) :=
  (f_laws_toFrameS x1).bind fun y96 =>
  (f_laws_toHomeS x2).bind fun y97 =>
  (f_laws_toSenderS x3).bind fun y98 =>
  (f_laws_toReceiverS x4).bind fun y99 =>
  some (x0, y96, y97, y98, y99)
noncomputable def C20 : Con := ⟨[(.B, true, [(.int .i64), (.sl R1), (.sl R4), (.sl R6), (.sl R0)])], [(true, [(.int .i64), (.sl R1), (.sl R4), (.sl R6), (.sl R0)])], [(.int .i64), (.sl R1), (.sl R4), (.sl R6), (.sl R0)], [(.int .i64), (.sl R1), (.sl R4), (.sl R6), (.sl R0)], fun (p : Int × (List (Int × List Int × Bool)) × (List (List Int × Int × List Bool × Bool × Int × Bool × Int × (List (Int × Bool)))) × (List (Int × (List (Int × Int × Bool × List Int)))) × List Int) => f_laws_toNode p.1 p.2.1 p.2.2.1 p.2.2.2.1 p.2.2.2.2⟩
noncomputable abbrev K20 : Cons := [(80, C80), (81, C81), (82, C82), (83, C83)]
noncomputable abbrev L20 : List (Nat × Loops) := []
abbrev Q20 : List (Nat × List (Int × Nat) × Nat) := []
noncomputable abbrev X20 : Nat → Ctx := ctxOf tb K20 L20 Q20
theorem E20 : ∀ x, funRun fs X20 6 20 C20 x = C20.fn x := fun x => by kernel_rfl
theorem B20 : ConB Tryz.prog 20 C20 := ConB.make FS MIX TY (cons := K20) (L := L20) (ptrs := Q20) ⟨S80, S81, S82, S83, trivial⟩ trivial trivial rfl rfl E20
theorem S20 : ConS Tryz.prog 20 C20 := B20.call rfl
/-! spec.l3Copy: function 151 -/
noncomputable def f_spec_l3Copy (x0 : Int) (x1 : List Int) (x2 : Bool) : Option (Int × List Int × Bool) :=
  bif (Nat.blt (([] : List Int).length + x1.length) 17592186044416) then
  (some ((([] : List Int) ++ x1) : List Int)).bind fun z100 =>
  some (x0, z100, x2)
  else none
noncomputable def C151 : Con := ⟨[(.B, true, [(.int .i64), (.sl R0), .bool])], [(true, [(.int .i64), (.sl R0), .bool])], [(.int .i64), (.sl R0), .bool], [(.int .i64), (.sl R0), .bool], fun (p : Int × List Int × Bool) => f_spec_l3Copy p.1 p.2.1 p.2.2⟩
noncomputable abbrev K151 : Cons := []
noncomputable abbrev L151 : List (Nat × Loops) := []
abbrev Q151 : List (Nat × List (Int × Nat) × Nat) := []
noncomputable abbrev X151 : Nat → Ctx := ctxOf tb K151 L151 Q151
theorem E151 : ∀ x, funRun fs X151 6 151 C151 x = C151.fn x := fun x => by kernel_rfl
theorem B151 : ConB Tryz.prog 151 C151 := ConB.make FS MIX TY (cons := K151) (L := L151) (ptrs := Q151) trivial trivial trivial rfl rfl E151
theorem S151 : ConS Tryz.prog 151 C151 := B151.call rfl
/-! spec.l4Copy: function 152 -/
noncomputable def f_spec_l4Copy (x0 : List Int) (x1 : Int) (x2 : List Bool) (x3 : Bool) (x4 : Int) (x5 : Bool) (x6 : Int) (x7 : List (Int × Bool)) : Option (List Int × Int × List Bool × Bool × Int × Bool × Int × (List (Int × Bool))) :=
  bif (Nat.blt (([] : List Int).length + x0.length) 17592186044416) then
  (some ((([] : List Int) ++ x0) : List Int)).bind fun z101 =>
  bif (Nat.blt (([] : List Bool).length + x2.length) 140737488355328) then
  (some ((([] : List Bool) ++ x2) : List Bool)).bind fun z102 =>
  bif (Nat.blt (([] : List (Int × Bool)).length + x7.length) 8796093022208) then
  (some ((([] : List (Int × Bool)) ++ x7) : List (Int × Bool))).bind fun z103 =>
  some (z101, x1, z102, x3, x4, x5, x6, z103)
  else none
  else none
  else none
noncomputable def C152 : Con := ⟨[(.B, true, [(.sl R0), (.int .i64), (.sl R2), .bool, (.int .i64), .bool, (.int .i64), (.sl R3)])], [(true, [(.sl R0), (.int .i64), (.sl R2), .bool, (.int .i64), .bool, (.int .i64), (.sl R3)])], [(.sl R0), (.int .i64), (.sl R2), .bool, (.int .i64), .bool, (.int .i64), (.sl R3)], [(.sl R0), (.int .i64), (.sl R2), .bool, (.int .i64), .bool, (.int .i64), (.sl R3)], fun (p : List Int × Int × List Bool × Bool × Int × Bool × Int × (List (Int × Bool))) => f_spec_l4Copy p.1 p.2.1 p.2.2.1 p.2.2.2.1 p.2.2.2.2.1 p.2.2.2.2.2.1 p.2.2.2.2.2.2.1 p.2.2.2.2.2.2.2⟩
noncomputable abbrev K152 : Cons := []
noncomputable abbrev L152 : List (Nat × Loops) := []
abbrev Q152 : List (Nat × List (Int × Nat) × Nat) := []
noncomputable abbrev X152 : Nat → Ctx := ctxOf tb K152 L152 Q152
theorem E152 : ∀ x, funRun fs X152 6 152 C152 x = C152.fn x := fun x => by kernel_rfl
theorem B152 : ConB Tryz.prog 152 C152 := ConB.make FS MIX TY (cons := K152) (L := L152) (ptrs := Q152) trivial trivial trivial rfl rfl E152
theorem S152 : ConS Tryz.prog 152 C152 := B152.call rfl
/-! spec.l1Msg: function 154 -/
noncomputable def f_spec_l1Msg (x0 : Int) (x1 : Int) (x2 : Bool) (x3 : List Int) : Option (Int × Int × Bool × List Int) :=
  bif (Nat.blt (([] : List Int).length + x3.length) 17592186044416) then
  (some ((([] : List Int) ++ x3) : List Int)).bind fun z104 =>
  some (x0, x1, x2, z104)
  else none
noncomputable def C154 : Con := ⟨[(.B, true, [(.int .i64), (.int .i64), .bool, (.sl R0)])], [(true, [(.int .i64), (.int .i64), .bool, (.sl R0)])], [(.int .i64), (.int .i64), .bool, (.sl R0)], [(.int .i64), (.int .i64), .bool, (.sl R0)], fun (p : Int × Int × Bool × List Int) => f_spec_l1Msg p.1 p.2.1 p.2.2.1 p.2.2.2⟩
noncomputable abbrev K154 : Cons := []
noncomputable abbrev L154 : List (Nat × Loops) := []
abbrev Q154 : List (Nat × List (Int × Nat) × Nat) := []
noncomputable abbrev X154 : Nat → Ctx := ctxOf tb K154 L154 Q154
theorem E154 : ∀ x, funRun fs X154 6 154 C154 x = C154.fn x := fun x => by kernel_rfl
theorem B154 : ConB Tryz.prog 154 C154 := ConB.make FS MIX TY (cons := K154) (L := L154) (ptrs := Q154) trivial trivial trivial rfl rfl E154
theorem S154 : ConS Tryz.prog 154 C154 := B154.call rfl
/-! spec.l2Sender: function 153 -/
noncomputable def f_spec_l2Sender.l0 : Nat → Int → Int → (List (Int × Int × Bool × List Int)) → Int → Int → (List (Int × Int × Bool × List Int)) → (List (Int × Int × Bool × List Int)) → Option (Int × Int × (List (Int × Int × Bool × List Int)) × (List (Int × Int × Bool × List Int)))
  | 0, _, _, _, _, _, _, _ => none
  | n + 1, p105, p106, p107, p108, p109, p110, p111 =>
    bif (decide (p105 < (p107.length : Int))) then
      bif ((decide ((0 : Int) ≤ p105)) && (decide (p105 < (p107.length : Int)))) then
      (f_spec_l1Msg ((p107.getD p105.toNat (0, 0, false, [])).1) ((p107.getD p105.toNat (0, 0, false, [])).2.1) ((p107.getD p105.toNat (0, 0, false, [])).2.2.1) ((p107.getD p105.toNat (0, 0, false, [])).2.2.2)).bind fun y112 =>
      bif (Nat.blt (p111.length + ([(y112.1, y112.2.1, y112.2.2.1, y112.2.2.2)] : List (Int × Int × Bool × List Int)).length) 2932031007402) then
      (some ((p111 ++ ([(y112.1, y112.2.1, y112.2.2.1, y112.2.2.2)] : List (Int × Int × Bool × List Int))) : List (Int × Int × Bool × List Int))).bind fun z113 =>
      f_spec_l2Sender.l0 n (IntKind.wrap .i64 (p105 + (1 : Int))) p106 p107 p108 p109 p110 z113
      else none
      else none
    else
      some (p108, p109, p110, p111)
noncomputable def f_spec_l2Sender (x0 : Int) (x1 : List (Int × Int × Bool × List Int)) : Option (Int × (List (Int × Int × Bool × List Int))) :=
  (f_spec_l2Sender.l0 N 0 x0 x1 0 x0 ([] : List (Int × Int × Bool × List Int)) ([] : List (Int × Int × Bool × List Int))).bind fun r114 =>
  some (r114.2.1, r114.2.2.2)
noncomputable def C153 : Con := ⟨[(.B, true, [(.int .i64), (.sl R5)])], [(true, [(.int .i64), (.sl R5)])], [(.int .i64), (.sl R5)], [(.int .i64), (.sl R5)], fun (p : Int × (List (Int × Int × Bool × List Int))) => f_spec_l2Sender p.1 p.2⟩
noncomputable def f_spec_l2Sender.l0.c : LoopCon := ⟨1000, 6, [1, 2, 3, 4], ⟨[(1, .ptr 1000 0), (2, .ptr 1001 0), (3, .ptr 1002 0), (4, .int .i64 0)], [(1000, .box [.int .i64 0, .bor none R5 []]), (1001, .box [.int .i64 0, .ref 1003 [] none]), (1002, .box [.int .i64 0, .ref 1004 [] none]), (1003, .row R5 []), (1004, .row R5 [])], 1005⟩, [(.int .i64), (.int .i64), (.sl R5), (.int .i64), (.int .i64), (.sl R5), (.sl R5)], [⟨.exit 0, [2, 3], ⟨[(2, .ptr 1000 0), (3, .ptr 1001 0)], [(1000, .box [.int .i64 0, .ref 1002 [] none]), (1001, .box [.int .i64 0, .ref 1003 [] none]), (1002, .row R5 []), (1003, .row R5 [])], 1004⟩, [(.int .i64), (.int .i64), (.sl R5), (.sl R5)]⟩], fun (p : Int × Int × (List (Int × Int × Bool × List Int)) × Int × Int × (List (Int × Int × Bool × List Int)) × (List (Int × Int × Bool × List Int))) => f_spec_l2Sender.l0 N p.1 p.2.1 p.2.2.1 p.2.2.2.1 p.2.2.2.2.1 p.2.2.2.2.2.1 p.2.2.2.2.2.2⟩
noncomputable abbrev K153 : Cons := [(154, C154)]
noncomputable abbrev L153 : List (Nat × Loops) := [(153, [(3, f_spec_l2Sender.l0.c)])]
abbrev Q153 : List (Nat × List (Int × Nat) × Nat) := []
noncomputable abbrev X153 : Nat → Ctx := ctxOf tb K153 L153 Q153
theorem f_spec_l2Sender.l0.ok : ∀ n p, (fun (p : Int × Int × (List (Int × Int × Bool × List Int)) × Int × Int × (List (Int × Int × Bool × List Int)) × (List (Int × Int × Bool × List Int))) => f_spec_l2Sender.l0 n p.1 p.2.1 p.2.2.1 p.2.2.2.1 p.2.2.2.2.1 p.2.2.2.2.2.1 p.2.2.2.2.2.2) p = iterD (roundOf fs X153 6 153 3 false f_spec_l2Sender.l0.c) n p :=
  iter_of (l := fun n => fun (p : Int × Int × (List (Int × Int × Bool × List Int)) × Int × Int × (List (Int × Int × Bool × List Int)) × (List (Int × Int × Bool × List Int))) => f_spec_l2Sender.l0 n p.1 p.2.1 p.2.2.1 p.2.2.2.1 p.2.2.2.2.1 p.2.2.2.2.2.1 p.2.2.2.2.2.2) (fun _ => rfl) (fun n p => by kernel_rfl)
theorem E153 : ∀ x, funRun fs X153 6 153 C153 x = C153.fn x := fun x => by kernel_rfl
theorem B153 : ConB Tryz.prog 153 C153 := ConB.make FS MIX TY (cons := K153) (L := L153) (ptrs := Q153) ⟨S154, trivial⟩ trivial ⟨⟨⟨N, fun p => f_spec_l2Sender.l0.ok N p⟩, trivial⟩, trivial⟩ rfl rfl E153
theorem S153 : ConS Tryz.prog 153 C153 := B153.call rfl
/-! spec.l5Copy: function 77 -/
noncomputable def f_spec_l5Copy.l2 : Nat → Int → Int → (List (Int × List Int × Bool)) → (List (List Int × Int × List Bool × Bool × Int × Bool × Int × (List (Int × Bool)))) → (List (Int × (List (Int × Int × Bool × List Int)))) → (List Int) → Int → Int → (List (Int × List Int × Bool)) → (List (List Int × Int × List Bool × Bool × Int × Bool × Int × (List (Int × Bool)))) → (List (Int × (List (Int × Int × Bool × List Int)))) → (List Int) → (List (Int × List Int × Bool)) → (List (List Int × Int × List Bool × Bool × Int × Bool × Int × (List (Int × Bool)))) → (List (Int × (List (Int × Int × Bool × List Int)))) → (List Int) → Option (Int × Int × (List (Int × List Int × Bool)) × (List (List Int × Int × List Bool × Bool × Int × Bool × Int × (List (Int × Bool)))) × (List (Int × (List (Int × Int × Bool × List Int)))) × List Int × (List (Int × List Int × Bool)) × (List (List Int × Int × List Bool × Bool × Int × Bool × Int × (List (Int × Bool)))) × (List (Int × (List (Int × Int × Bool × List Int)))) × List Int)
  | 0, _, _, _, _, _, _, _, _, _, _, _, _, _, _, _, _ => none
  | n + 1, p154, p155, p156, p157, p158, p159, p160, p161, p162, p163, p164, p165, p166, p167, p168, p169 =>
    bif (decide (p154 < (p158.length : Int))) then
      bif ((decide ((0 : Int) ≤ p154)) && (decide (p154 < (p158.length : Int)))) then
      (f_spec_l2Sender ((p158.getD p154.toNat (0, [])).1) ((p158.getD p154.toNat (0, [])).2)).bind fun y170 =>
      bif (Nat.blt (p168.length + ([(y170.1, y170.2)] : List (Int × (List (Int × Int × Bool × List Int)))).length) 4398046511104) then
      (some ((p168 ++ ([(y170.1, y170.2)] : List (Int × (List (Int × Int × Bool × List Int))))) : List (Int × (List (Int × Int × Bool × List Int))))).bind fun z171 =>
      f_spec_l5Copy.l2 n (IntKind.wrap .i64 (p154 + (1 : Int))) p155 p156 p157 p158 p159 p160 p161 p162 p163 p164 p165 p166 p167 z171 p169
      else none
      else none
    else
      some (p160, p161, p162, p163, p164, p165, p166, p167, p168, p169)
noncomputable def f_spec_l5Copy.l1 : Nat → Int → Int → (List (Int × List Int × Bool)) → (List (List Int × Int × List Bool × Bool × Int × Bool × Int × (List (Int × Bool)))) → (List (Int × (List (Int × Int × Bool × List Int)))) → (List Int) → Int → Int → (List (Int × List Int × Bool)) → (List (List Int × Int × List Bool × Bool × Int × Bool × Int × (List (Int × Bool)))) → (List (Int × (List (Int × Int × Bool × List Int)))) → (List Int) → (List (Int × List Int × Bool)) → (List (List Int × Int × List Bool × Bool × Int × Bool × Int × (List (Int × Bool)))) → (List (Int × (List (Int × Int × Bool × List Int)))) → (List Int) → Option (Int × (List (Int × List Int × Bool)) × (List (List Int × Int × List Bool × Bool × Int × Bool × Int × (List (Int × Bool)))) × (List (Int × (List (Int × Int × Bool × List Int)))) × List Int × Int × Int × (List (Int × List Int × Bool)) × (List (List Int × Int × List Bool × Bool × Int × Bool × Int × (List (Int × Bool)))) × (List (Int × (List (Int × Int × Bool × List Int)))) × List Int × (List (Int × List Int × Bool)) × (List (List Int × Int × List Bool × Bool × Int × Bool × Int × (List (Int × Bool)))) × (List (Int × (List (Int × Int × Bool × List Int)))) × List Int)
  | 0, _, _, _, _, _, _, _, _, _, _, _, _, _, _, _, _ => none
  | n + 1, p135, p136, p137, p138, p139, p140, p141, p142, p143, p144, p145, p146, p147, p148, p149, p150 =>
    bif (decide (p135 < (p138.length : Int))) then
      bif ((decide ((0 : Int) ≤ p135)) && (decide (p135 < (p138.length : Int)))) then
      (f_spec_l4Copy ((p138.getD p135.toNat ([], 0, [], false, 0, false, 0, [])).1) ((p138.getD p135.toNat ([], 0, [], false, 0, false, 0, [])).2.1) ((p138.getD p135.toNat ([], 0, [], false, 0, false, 0, [])).2.2.1) ((p138.getD p135.toNat ([], 0, [], false, 0, false, 0, [])).2.2.2.1) ((p138.getD p135.toNat ([], 0, [], false, 0, false, 0, [])).2.2.2.2.1) ((p138.getD p135.toNat ([], 0, [], false, 0, false, 0, [])).2.2.2.2.2.1) ((p138.getD p135.toNat ([], 0, [], false, 0, false, 0, [])).2.2.2.2.2.2.1) ((p138.getD p135.toNat ([], 0, [], false, 0, false, 0, [])).2.2.2.2.2.2.2)).bind fun y151 =>
      bif (Nat.blt (p148.length + ([(y151.1, y151.2.1, y151.2.2.1, y151.2.2.2.1, y151.2.2.2.2.1, y151.2.2.2.2.2.1, y151.2.2.2.2.2.2.1, y151.2.2.2.2.2.2.2)] : List (List Int × Int × List Bool × Bool × Int × Bool × Int × (List (Int × Bool)))).length) 1256584717458) then
      (some ((p148 ++ ([(y151.1, y151.2.1, y151.2.2.1, y151.2.2.2.1, y151.2.2.2.2.1, y151.2.2.2.2.2.1, y151.2.2.2.2.2.2.1, y151.2.2.2.2.2.2.2)] : List (List Int × Int × List Bool × Bool × Int × Bool × Int × (List (Int × Bool))))) : List (List Int × Int × List Bool × Bool × Int × Bool × Int × (List (Int × Bool))))).bind fun z152 =>
      f_spec_l5Copy.l1 n (IntKind.wrap .i64 (p135 + (1 : Int))) p136 p137 p138 p139 p140 p141 p142 p143 p144 p145 p146 p147 z152 p149 p150
      else none
      else none
    else
      some (p136, p137, p138, p139, p140, p141, p142, p143, p144, p145, p146, p147, p148, p149, p150)
noncomputable def f_spec_l5Copy.l0 : Nat → Int → Int → (List (Int × List Int × Bool)) → (List (List Int × Int × List Bool × Bool × Int × Bool × Int × (List (Int × Bool)))) → (List (Int × (List (Int × Int × Bool × List Int)))) → (List Int) → Int → Int → (List (Int × List Int × Bool)) → (List (List Int × Int × List Bool × Bool × Int × Bool × Int × (List (Int × Bool)))) → (List (Int × (List (Int × Int × Bool × List Int)))) → (List Int) → (List (Int × List Int × Bool)) → (List (List Int × Int × List Bool × Bool × Int × Bool × Int × (List (Int × Bool)))) → (List (Int × (List (Int × Int × Bool × List Int)))) → (List Int) → Option (Int × (List (Int × List Int × Bool)) × (List (List Int × Int × List Bool × Bool × Int × Bool × Int × (List (Int × Bool)))) × (List (Int × (List (Int × Int × Bool × List Int)))) × List Int × Int × Int × (List (Int × List Int × Bool)) × (List (List Int × Int × List Bool × Bool × Int × Bool × Int × (List (Int × Bool)))) × (List (Int × (List (Int × Int × Bool × List Int)))) × List Int × (List (Int × List Int × Bool)) × (List (List Int × Int × List Bool × Bool × Int × Bool × Int × (List (Int × Bool)))) × (List (Int × (List (Int × Int × Bool × List Int)))) × List Int)
  | 0, _, _, _, _, _, _, _, _, _, _, _, _, _, _, _, _ => none
  | n + 1, p116, p117, p118, p119, p120, p121, p122, p123, p124, p125, p126, p127, p128, p129, p130, p131 =>
    bif (decide (p116 < (p118.length : Int))) then
      bif ((decide ((0 : Int) ≤ p116)) && (decide (p116 < (p118.length : Int)))) then
      (f_spec_l3Copy ((p118.getD p116.toNat (0, [], false)).1) ((p118.getD p116.toNat (0, [], false)).2.1) ((p118.getD p116.toNat (0, [], false)).2.2)).bind fun y132 =>
      bif (Nat.blt (p128.length + ([(y132.1, y132.2.1, y132.2.2)] : List (Int × List Int × Bool)).length) 3518437208883) then
      (some ((p128 ++ ([(y132.1, y132.2.1, y132.2.2)] : List (Int × List Int × Bool))) : List (Int × List Int × Bool))).bind fun z133 =>
      f_spec_l5Copy.l0 n (IntKind.wrap .i64 (p116 + (1 : Int))) p117 p118 p119 p120 p121 p122 p123 p124 p125 p126 p127 z133 p129 p130 p131
      else none
      else none
    else
      some (p117, p118, p119, p120, p121, p122, p123, p124, p125, p126, p127, p128, p129, p130, p131)
noncomputable def f_spec_l5Copy (x0 : Int) (x1 : List (Int × List Int × Bool)) (x2 : List (List Int × Int × List Bool × Bool × Int × Bool × Int × (List (Int × Bool)))) (x3 : List (Int × (List (Int × Int × Bool × List Int)))) (x4 : List Int) : Option (Int × (List (Int × List Int × Bool)) × (List (List Int × Int × List Bool × Bool × Int × Bool × Int × (List (Int × Bool)))) × (List (Int × (List (Int × Int × Bool × List Int)))) × List Int) :=
  bif (Nat.blt (([] : List Int).length + x4.length) 17592186044416) then
  (some ((([] : List Int) ++ x4) : List Int)).bind fun z115 =>
  (f_spec_l5Copy.l0 N 0 x0 x1 x2 x3 x4 0 x0 ([] : List (Int × List Int × Bool)) ([] : List (List Int × Int × List Bool × Bool × Int × Bool × Int × (List (Int × Bool)))) ([] : List (Int × (List (Int × Int × Bool × List Int)))) ([] : List Int) ([] : List (Int × List Int × Bool)) ([] : List (List Int × Int × List Bool × Bool × Int × Bool × Int × (List (Int × Bool)))) ([] : List (Int × (List (Int × Int × Bool × List Int)))) z115).bind fun r134 =>
  (f_spec_l5Copy.l1 N 0 r134.1 r134.2.1 r134.2.2.1 r134.2.2.2.1 r134.2.2.2.2.1 r134.2.2.2.2.2.1 r134.2.2.2.2.2.2.1 r134.2.2.2.2.2.2.2.1 r134.2.2.2.2.2.2.2.2.1 r134.2.2.2.2.2.2.2.2.2.1 r134.2.2.2.2.2.2.2.2.2.2.1 r134.2.2.2.2.2.2.2.2.2.2.2.1 r134.2.2.2.2.2.2.2.2.2.2.2.2.1 r134.2.2.2.2.2.2.2.2.2.2.2.2.2.1 r134.2.2.2.2.2.2.2.2.2.2.2.2.2.2).bind fun r153 =>
  (f_spec_l5Copy.l2 N 0 r153.1 r153.2.1 r153.2.2.1 r153.2.2.2.1 r153.2.2.2.2.1 r153.2.2.2.2.2.1 r153.2.2.2.2.2.2.1 r153.2.2.2.2.2.2.2.1 r153.2.2.2.2.2.2.2.2.1 r153.2.2.2.2.2.2.2.2.2.1 r153.2.2.2.2.2.2.2.2.2.2.1 r153.2.2.2.2.2.2.2.2.2.2.2.1 r153.2.2.2.2.2.2.2.2.2.2.2.2.1 r153.2.2.2.2.2.2.2.2.2.2.2.2.2.1 r153.2.2.2.2.2.2.2.2.2.2.2.2.2.2).bind fun r172 =>
  some (r172.2.1, r172.2.2.2.2.2.2.1, r172.2.2.2.2.2.2.2.1, r172.2.2.2.2.2.2.2.2.1, r172.2.2.2.2.2.2.2.2.2)
  else none
noncomputable def C77 : Con := ⟨[(.B, true, [(.int .i64), (.sl R1), (.sl R4), (.sl R6), (.sl R0)])], [(true, [(.int .i64), (.sl R1), (.sl R4), (.sl R6), (.sl R0)])], [(.int .i64), (.sl R1), (.sl R4), (.sl R6), (.sl R0)], [(.int .i64), (.sl R1), (.sl R4), (.sl R6), (.sl R0)], fun (p : Int × (List (Int × List Int × Bool)) × (List (List Int × Int × List Bool × Bool × Int × Bool × Int × (List (Int × Bool)))) × (List (Int × (List (Int × Int × Bool × List Int)))) × List Int) => f_spec_l5Copy p.1 p.2.1 p.2.2.1 p.2.2.2.1 p.2.2.2.2⟩
noncomputable def f_spec_l5Copy.l0.c : LoopCon := ⟨1000, 6, [1, 2, 3, 4], ⟨[(1, .ptr 1000 0), (2, .ptr 1001 0), (3, .ptr 1002 0), (4, .int .i64 0)], [(1000, .box [.int .i64 0, .bor none R1 [], .bor none R4 [], .bor none R6 [], .bor none R0 []]), (1001, .box [.int .i64 0, .ref 1003 [] none, .ref 1004 [] none, .ref 1005 [] none, .ref 1006 [] none]), (1002, .box [.int .i64 0, .ref 1007 [] none, .ref 1008 [] none, .ref 1009 [] none, .ref 1010 [] none]), (1003, .row R1 []), (1004, .row R4 []), (1005, .row R6 []), (1006, .row R0 []), (1007, .row R1 []), (1008, .row R4 []), (1009, .row R6 []), (1010, .row R0 [])], 1011⟩, [(.int .i64), (.int .i64), (.sl R1), (.sl R4), (.sl R6), (.sl R0), (.int .i64), (.int .i64), (.sl R1), (.sl R4), (.sl R6), (.sl R0), (.sl R1), (.sl R4), (.sl R6), (.sl R0)], [⟨.exit 0, [1, 2, 3], ⟨[(1, .ptr 1000 0), (2, .ptr 1001 0), (3, .ptr 1002 0)], [(1000, .box [.int .i64 0, .bor none R1 [], .bor none R4 [], .bor none R6 [], .bor none R0 []]), (1001, .box [.int .i64 0, .ref 1003 [] none, .ref 1004 [] none, .ref 1005 [] none, .ref 1006 [] none]), (1002, .box [.int .i64 0, .ref 1007 [] none, .ref 1008 [] none, .ref 1009 [] none, .ref 1010 [] none]), (1003, .row R1 []), (1004, .row R4 []), (1005, .row R6 []), (1006, .row R0 []), (1007, .row R1 []), (1008, .row R4 []), (1009, .row R6 []), (1010, .row R0 [])], 1011⟩, [(.int .i64), (.sl R1), (.sl R4), (.sl R6), (.sl R0), (.int .i64), (.int .i64), (.sl R1), (.sl R4), (.sl R6), (.sl R0), (.sl R1), (.sl R4), (.sl R6), (.sl R0)]⟩], fun (p : Int × Int × (List (Int × List Int × Bool)) × (List (List Int × Int × List Bool × Bool × Int × Bool × Int × (List (Int × Bool)))) × (List (Int × (List (Int × Int × Bool × List Int)))) × List Int × Int × Int × (List (Int × List Int × Bool)) × (List (List Int × Int × List Bool × Bool × Int × Bool × Int × (List (Int × Bool)))) × (List (Int × (List (Int × Int × Bool × List Int)))) × List Int × (List (Int × List Int × Bool)) × (List (List Int × Int × List Bool × Bool × Int × Bool × Int × (List (Int × Bool)))) × (List (Int × (List (Int × Int × Bool × List Int)))) × List Int) => f_spec_l5Copy.l0 N p.1 p.2.1 p.2.2.1 p.2.2.2.1 p.2.2.2.2.1 p.2.2.2.2.2.1 p.2.2.2.2.2.2.1 p.2.2.2.2.2.2.2.1 p.2.2.2.2.2.2.2.2.1 p.2.2.2.2.2.2.2.2.2.1 p.2.2.2.2.2.2.2.2.2.2.1 p.2.2.2.2.2.2.2.2.2.2.2.1 p.2.2.2.2.2.2.2.2.2.2.2.2.1 p.2.2.2.2.2.2.2.2.2.2.2.2.2.1 p.2.2.2.2.2.2.2.2.2.2.2.2.2.2.1 p.2.2.2.2.2.2.2.2.2.2.2.2.2.2.2⟩
noncomputable def f_spec_l5Copy.l1.c : LoopCon := ⟨1000, 6, [1, 2, 3, 5], ⟨[(1, .ptr 1000 0), (2, .ptr 1001 0), (3, .ptr 1002 0), (5, .int .i64 0)], [(1000, .box [.int .i64 0, .bor none R1 [], .bor none R4 [], .bor none R6 [], .bor none R0 []]), (1001, .box [.int .i64 0, .ref 1003 [] none, .ref 1004 [] none, .ref 1005 [] none, .ref 1006 [] none]), (1002, .box [.int .i64 0, .ref 1007 [] none, .ref 1008 [] none, .ref 1009 [] none, .ref 1010 [] none]), (1003, .row R1 []), (1004, .row R4 []), (1005, .row R6 []), (1006, .row R0 []), (1007, .row R1 []), (1008, .row R4 []), (1009, .row R6 []), (1010, .row R0 [])], 1011⟩, [(.int .i64), (.int .i64), (.sl R1), (.sl R4), (.sl R6), (.sl R0), (.int .i64), (.int .i64), (.sl R1), (.sl R4), (.sl R6), (.sl R0), (.sl R1), (.sl R4), (.sl R6), (.sl R0)], [⟨.exit 2, [1, 2, 3], ⟨[(1, .ptr 1000 0), (2, .ptr 1001 0), (3, .ptr 1002 0)], [(1000, .box [.int .i64 0, .bor none R1 [], .bor none R4 [], .bor none R6 [], .bor none R0 []]), (1001, .box [.int .i64 0, .ref 1003 [] none, .ref 1004 [] none, .ref 1005 [] none, .ref 1006 [] none]), (1002, .box [.int .i64 0, .ref 1007 [] none, .ref 1008 [] none, .ref 1009 [] none, .ref 1010 [] none]), (1003, .row R1 []), (1004, .row R4 []), (1005, .row R6 []), (1006, .row R0 []), (1007, .row R1 []), (1008, .row R4 []), (1009, .row R6 []), (1010, .row R0 [])], 1011⟩, [(.int .i64), (.sl R1), (.sl R4), (.sl R6), (.sl R0), (.int .i64), (.int .i64), (.sl R1), (.sl R4), (.sl R6), (.sl R0), (.sl R1), (.sl R4), (.sl R6), (.sl R0)]⟩], fun (p : Int × Int × (List (Int × List Int × Bool)) × (List (List Int × Int × List Bool × Bool × Int × Bool × Int × (List (Int × Bool)))) × (List (Int × (List (Int × Int × Bool × List Int)))) × List Int × Int × Int × (List (Int × List Int × Bool)) × (List (List Int × Int × List Bool × Bool × Int × Bool × Int × (List (Int × Bool)))) × (List (Int × (List (Int × Int × Bool × List Int)))) × List Int × (List (Int × List Int × Bool)) × (List (List Int × Int × List Bool × Bool × Int × Bool × Int × (List (Int × Bool)))) × (List (Int × (List (Int × Int × Bool × List Int)))) × List Int) => f_spec_l5Copy.l1 N p.1 p.2.1 p.2.2.1 p.2.2.2.1 p.2.2.2.2.1 p.2.2.2.2.2.1 p.2.2.2.2.2.2.1 p.2.2.2.2.2.2.2.1 p.2.2.2.2.2.2.2.2.1 p.2.2.2.2.2.2.2.2.2.1 p.2.2.2.2.2.2.2.2.2.2.1 p.2.2.2.2.2.2.2.2.2.2.2.1 p.2.2.2.2.2.2.2.2.2.2.2.2.1 p.2.2.2.2.2.2.2.2.2.2.2.2.2.1 p.2.2.2.2.2.2.2.2.2.2.2.2.2.2.1 p.2.2.2.2.2.2.2.2.2.2.2.2.2.2.2⟩
noncomputable def f_spec_l5Copy.l2.c : LoopCon := ⟨1000, 6, [1, 2, 3, 6], ⟨[(1, .ptr 1000 0), (2, .ptr 1001 0), (3, .ptr 1002 0), (6, .int .i64 0)], [(1000, .box [.int .i64 0, .bor none R1 [], .bor none R4 [], .bor none R6 [], .bor none R0 []]), (1001, .box [.int .i64 0, .ref 1003 [] none, .ref 1004 [] none, .ref 1005 [] none, .ref 1006 [] none]), (1002, .box [.int .i64 0, .ref 1007 [] none, .ref 1008 [] none, .ref 1009 [] none, .ref 1010 [] none]), (1003, .row R1 []), (1004, .row R4 []), (1005, .row R6 []), (1006, .row R0 []), (1007, .row R1 []), (1008, .row R4 []), (1009, .row R6 []), (1010, .row R0 [])], 1011⟩, [(.int .i64), (.int .i64), (.sl R1), (.sl R4), (.sl R6), (.sl R0), (.int .i64), (.int .i64), (.sl R1), (.sl R4), (.sl R6), (.sl R0), (.sl R1), (.sl R4), (.sl R6), (.sl R0)], [⟨.exit 4, [2, 3], ⟨[(2, .ptr 1000 0), (3, .ptr 1001 0)], [(1000, .box [.int .i64 0, .ref 1002 [] none, .ref 1003 [] none, .ref 1004 [] none, .ref 1005 [] none]), (1001, .box [.int .i64 0, .ref 1006 [] none, .ref 1007 [] none, .ref 1008 [] none, .ref 1009 [] none]), (1002, .row R1 []), (1003, .row R4 []), (1004, .row R6 []), (1005, .row R0 []), (1006, .row R1 []), (1007, .row R4 []), (1008, .row R6 []), (1009, .row R0 [])], 1010⟩, [(.int .i64), (.int .i64), (.sl R1), (.sl R4), (.sl R6), (.sl R0), (.sl R1), (.sl R4), (.sl R6), (.sl R0)]⟩], fun (p : Int × Int × (List (Int × List Int × Bool)) × (List (List Int × Int × List Bool × Bool × Int × Bool × Int × (List (Int × Bool)))) × (List (Int × (List (Int × Int × Bool × List Int)))) × List Int × Int × Int × (List (Int × List Int × Bool)) × (List (List Int × Int × List Bool × Bool × Int × Bool × Int × (List (Int × Bool)))) × (List (Int × (List (Int × Int × Bool × List Int)))) × List Int × (List (Int × List Int × Bool)) × (List (List Int × Int × List Bool × Bool × Int × Bool × Int × (List (Int × Bool)))) × (List (Int × (List (Int × Int × Bool × List Int)))) × List Int) => f_spec_l5Copy.l2 N p.1 p.2.1 p.2.2.1 p.2.2.2.1 p.2.2.2.2.1 p.2.2.2.2.2.1 p.2.2.2.2.2.2.1 p.2.2.2.2.2.2.2.1 p.2.2.2.2.2.2.2.2.1 p.2.2.2.2.2.2.2.2.2.1 p.2.2.2.2.2.2.2.2.2.2.1 p.2.2.2.2.2.2.2.2.2.2.2.1 p.2.2.2.2.2.2.2.2.2.2.2.2.1 p.2.2.2.2.2.2.2.2.2.2.2.2.2.1 p.2.2.2.2.2.2.2.2.2.2.2.2.2.2.1 p.2.2.2.2.2.2.2.2.2.2.2.2.2.2.2⟩
noncomputable abbrev K77 : Cons := [(151, C151), (152, C152), (153, C153)]
noncomputable abbrev L77 : List (Nat × Loops) := [(77, [(3, f_spec_l5Copy.l0.c), (7, f_spec_l5Copy.l1.c), (11, f_spec_l5Copy.l2.c)])]
abbrev Q77 : List (Nat × List (Int × Nat) × Nat) := []
noncomputable abbrev X77 : Nat → Ctx := ctxOf tb K77 L77 Q77
theorem f_spec_l5Copy.l0.ok : ∀ n p, (fun (p : Int × Int × (List (Int × List Int × Bool)) × (List (List Int × Int × List Bool × Bool × Int × Bool × Int × (List (Int × Bool)))) × (List (Int × (List (Int × Int × Bool × List Int)))) × List Int × Int × Int × (List (Int × List Int × Bool)) × (List (List Int × Int × List Bool × Bool × Int × Bool × Int × (List (Int × Bool)))) × (List (Int × (List (Int × Int × Bool × List Int)))) × List Int × (List (Int × List Int × Bool)) × (List (List Int × Int × List Bool × Bool × Int × Bool × Int × (List (Int × Bool)))) × (List (Int × (List (Int × Int × Bool × List Int)))) × List Int) => f_spec_l5Copy.l0 n p.1 p.2.1 p.2.2.1 p.2.2.2.1 p.2.2.2.2.1 p.2.2.2.2.2.1 p.2.2.2.2.2.2.1 p.2.2.2.2.2.2.2.1 p.2.2.2.2.2.2.2.2.1 p.2.2.2.2.2.2.2.2.2.1 p.2.2.2.2.2.2.2.2.2.2.1 p.2.2.2.2.2.2.2.2.2.2.2.1 p.2.2.2.2.2.2.2.2.2.2.2.2.1 p.2.2.2.2.2.2.2.2.2.2.2.2.2.1 p.2.2.2.2.2.2.2.2.2.2.2.2.2.2.1 p.2.2.2.2.2.2.2.2.2.2.2.2.2.2.2) p = iterD (roundOf fs X77 6 77 3 false f_spec_l5Copy.l0.c) n p :=
  iter_of (l := fun n => fun (p : Int × Int × (List (Int × List Int × Bool)) × (List (List Int × Int × List Bool × Bool × Int × Bool × Int × (List (Int × Bool)))) × (List (Int × (List (Int × Int × Bool × List Int)))) × List Int × Int × Int × (List (Int × List Int × Bool)) × (List (List Int × Int × List Bool × Bool × Int × Bool × Int × (List (Int × Bool)))) × (List (Int × (List (Int × Int × Bool × List Int)))) × List Int × (List (Int × List Int × Bool)) × (List (List Int × Int × List Bool × Bool × Int × Bool × Int × (List (Int × Bool)))) × (List (Int × (List (Int × Int × Bool × List Int)))) × List Int) => f_spec_l5Copy.l0 n p.1 p.2.1 p.2.2.1 p.2.2.2.1 p.2.2.2.2.1 p.2.2.2.2.2.1 p.2.2.2.2.2.2.1 p.2.2.2.2.2.2.2.1 p.2.2.2.2.2.2.2.2.1 p.2.2.2.2.2.2.2.2.2.1 p.2.2.2.2.2.2.2.2.2.2.1 p.2.2.2.2.2.2.2.2.2.2.2.1 p.2.2.2.2.2.2.2.2.2.2.2.2.1 p.2.2.2.2.2.2.2.2.2.2.2.2.2.1 p.2.2.2.2.2.2.2.2.2.2.2.2.2.2.1 p.2.2.2.2.2.2.2.2.2.2.2.2.2.2.2) (fun _ => rfl) (fun n p => by kernel_rfl)
theorem f_spec_l5Copy.l1.ok : ∀ n p, (fun (p : Int × Int × (List (Int × List Int × Bool)) × (List (List Int × Int × List Bool × Bool × Int × Bool × Int × (List (Int × Bool)))) × (List (Int × (List (Int × Int × Bool × List Int)))) × List Int × Int × Int × (List (Int × List Int × Bool)) × (List (List Int × Int × List Bool × Bool × Int × Bool × Int × (List (Int × Bool)))) × (List (Int × (List (Int × Int × Bool × List Int)))) × List Int × (List (Int × List Int × Bool)) × (List (List Int × Int × List Bool × Bool × Int × Bool × Int × (List (Int × Bool)))) × (List (Int × (List (Int × Int × Bool × List Int)))) × List Int) => f_spec_l5Copy.l1 n p.1 p.2.1 p.2.2.1 p.2.2.2.1 p.2.2.2.2.1 p.2.2.2.2.2.1 p.2.2.2.2.2.2.1 p.2.2.2.2.2.2.2.1 p.2.2.2.2.2.2.2.2.1 p.2.2.2.2.2.2.2.2.2.1 p.2.2.2.2.2.2.2.2.2.2.1 p.2.2.2.2.2.2.2.2.2.2.2.1 p.2.2.2.2.2.2.2.2.2.2.2.2.1 p.2.2.2.2.2.2.2.2.2.2.2.2.2.1 p.2.2.2.2.2.2.2.2.2.2.2.2.2.2.1 p.2.2.2.2.2.2.2.2.2.2.2.2.2.2.2) p = iterD (roundOf fs X77 6 77 7 false f_spec_l5Copy.l1.c) n p :=
  iter_of (l := fun n => fun (p : Int × Int × (List (Int × List Int × Bool)) × (List (List Int × Int × List Bool × Bool × Int × Bool × Int × (List (Int × Bool)))) × (List (Int × (List (Int × Int × Bool × List Int)))) × List Int × Int × Int × (List (Int × List Int × Bool)) × (List (List Int × Int × List Bool × Bool × Int × Bool × Int × (List (Int × Bool)))) × (List (Int × (List (Int × Int × Bool × List Int)))) × List Int × (List (Int × List Int × Bool)) × (List (List Int × Int × List Bool × Bool × Int × Bool × Int × (List (Int × Bool)))) × (List (Int × (List (Int × Int × Bool × List Int)))) × List Int) => f_spec_l5Copy.l1 n p.1 p.2.1 p.2.2.1 p.2.2.2.1 p.2.2.2.2.1 p.2.2.2.2.2.1 p.2.2.2.2.2.2.1 p.2.2.2.2.2.2.2.1 p.2.2.2.2.2.2.2.2.1 p.2.2.2.2.2.2.2.2.2.1 p.2.2.2.2.2.2.2.2.2.2.1 p.2.2.2.2.2.2.2.2.2.2.2.1 p.2.2.2.2.2.2.2.2.2.2.2.2.1 p.2.2.2.2.2.2.2.2.2.2.2.2.2.1 p.2.2.2.2.2.2.2.2.2.2.2.2.2.2.1 p.2.2.2.2.2.2.2.2.2.2.2.2.2.2.2) (fun _ => rfl) (fun n p => by kernel_rfl)
theorem f_spec_l5Copy.l2.ok : ∀ n p, (fun (p : Int × Int × (List (Int × List Int × Bool)) × (List (List Int × Int × List Bool × Bool × Int × Bool × Int × (List (Int × Bool)))) × (List (Int × (List (Int × Int × Bool × List Int)))) × List Int × Int × Int × (List (Int × List Int × Bool)) × (List (List Int × Int × List Bool × Bool × Int × Bool × Int × (List (Int × Bool)))) × (List (Int × (List (Int × Int × Bool × List Int)))) × List Int × (List (Int × List Int × Bool)) × (List (List Int × Int × List Bool × Bool × Int × Bool × Int × (List (Int × Bool)))) × (List (Int × (List (Int × Int × Bool × List Int)))) × List Int) => f_spec_l5Copy.l2 n p.1 p.2.1 p.2.2.1 p.2.2.2.1 p.2.2.2.2.1 p.2.2.2.2.2.1 p.2.2.2.2.2.2.1 p.2.2.2.2.2.2.2.1 p.2.2.2.2.2.2.2.2.1 p.2.2.2.2.2.2.2.2.2.1 p.2.2.2.2.2.2.2.2.2.2.1 p.2.2.2.2.2.2.2.2.2.2.2.1 p.2.2.2.2.2.2.2.2.2.2.2.2.1 p.2.2.2.2.2.2.2.2.2.2.2.2.2.1 p.2.2.2.2.2.2.2.2.2.2.2.2.2.2.1 p.2.2.2.2.2.2.2.2.2.2.2.2.2.2.2) p = iterD (roundOf fs X77 6 77 11 false f_spec_l5Copy.l2.c) n p :=
  iter_of (l := fun n => fun (p : Int × Int × (List (Int × List Int × Bool)) × (List (List Int × Int × List Bool × Bool × Int × Bool × Int × (List (Int × Bool)))) × (List (Int × (List (Int × Int × Bool × List Int)))) × List Int × Int × Int × (List (Int × List Int × Bool)) × (List (List Int × Int × List Bool × Bool × Int × Bool × Int × (List (Int × Bool)))) × (List (Int × (List (Int × Int × Bool × List Int)))) × List Int × (List (Int × List Int × Bool)) × (List (List Int × Int × List Bool × Bool × Int × Bool × Int × (List (Int × Bool)))) × (List (Int × (List (Int × Int × Bool × List Int)))) × List Int) => f_spec_l5Copy.l2 n p.1 p.2.1 p.2.2.1 p.2.2.2.1 p.2.2.2.2.1 p.2.2.2.2.2.1 p.2.2.2.2.2.2.1 p.2.2.2.2.2.2.2.1 p.2.2.2.2.2.2.2.2.1 p.2.2.2.2.2.2.2.2.2.1 p.2.2.2.2.2.2.2.2.2.2.1 p.2.2.2.2.2.2.2.2.2.2.2.1 p.2.2.2.2.2.2.2.2.2.2.2.2.1 p.2.2.2.2.2.2.2.2.2.2.2.2.2.1 p.2.2.2.2.2.2.2.2.2.2.2.2.2.2.1 p.2.2.2.2.2.2.2.2.2.2.2.2.2.2.2) (fun _ => rfl) (fun n p => by kernel_rfl)
theorem E77 : ∀ x, funRun fs X77 6 77 C77 x = C77.fn x := fun x => by kernel_rfl
theorem B77 : ConB Tryz.prog 77 C77 := ConB.make FS MIX TY (cons := K77) (L := L77) (ptrs := Q77) ⟨S151, S152, S153, trivial⟩ trivial ⟨⟨⟨N, fun p => f_spec_l5Copy.l0.ok N p⟩, ⟨N, fun p => f_spec_l5Copy.l1.ok N p⟩, ⟨N, fun p => f_spec_l5Copy.l2.ok N p⟩, trivial⟩, trivial⟩ rfl rfl E77
theorem S77 : ConS Tryz.prog 77 C77 := B77.call rfl
/-! spec.l1In: function 60 -/
noncomputable def f_spec_l1In (x0 : Int) (x1 : Int) (x2 : Int) : Option (Bool) :=
  bif (decide (x1 ≤ x0)) then
    some (decide (x0 ≤ x2))
  else
    some false
noncomputable def C60 : Con := ⟨[(.B, false, [(.int .i64)]), (.B, false, [(.int .i64)]), (.B, false, [(.int .i64)])], [(false, [.bool])], [(.int .i64), (.int .i64), (.int .i64)], [.bool], fun (p : Int × Int × Int) => f_spec_l1In p.1 p.2.1 p.2.2⟩
noncomputable abbrev K60 : Cons := []
noncomputable abbrev L60 : List (Nat × Loops) := []
abbrev Q60 : List (Nat × List (Int × Nat) × Nat) := []
noncomputable abbrev X60 : Nat → Ctx := ctxOf tb K60 L60 Q60
theorem E60 : ∀ x, funRun fs X60 6 60 C60 x = C60.fn x := fun x => by kernel_rfl
theorem B60 : ConB Tryz.prog 60 C60 := ConB.make FS MIX TY (cons := K60) (L := L60) (ptrs := Q60) trivial trivial trivial rfl rfl E60
theorem S60 : ConS Tryz.prog 60 C60 := B60.call rfl
/-! spec.l1Words: function 182 -/
noncomputable def f_spec_l1Words.l0 : Nat → (List Int) → Int → Bool → Int → Option ((Bool) ⊕ (List Int × Int × Bool))
  | 0, _, _, _, _ => none
  | n + 1, p173, p174, p175, p176 =>
    bif (decide (p176 < (p173.length : Int))) then
      bif ((decide ((0 : Int) ≤ p176)) && (decide (p176 < (p173.length : Int)))) then
      (f_spec_l1In (p173.getD p176.toNat 0) 0 65535).bind fun y177 =>
      bif (!y177) then
        some (.inl false)
      else
        f_spec_l1Words.l0 n p173 p174 p175 (IntKind.wrap .i64 (p176 + (1 : Int)))
      else none
    else
      some (.inr (p173, p174, p175))
noncomputable def f_spec_l1Words (x0 : List Int) (x1 : Int) : Option (Bool) :=
  (f_spec_l1Words.l0 N x0 x1 false 0).bind fun r178 =>
  cs r178 (fun a179 =>
    some a179) (fun b180 =>
    some (decide ((b180.1.length : Int) = b180.2.1)))
noncomputable def C182 : Con := ⟨[(.B, false, [(.sl R0)]), (.B, false, [(.int .i64)])], [(false, [.bool])], [(.sl R0), (.int .i64)], [.bool], fun (p : List Int × Int) => f_spec_l1Words p.1 p.2⟩
noncomputable def f_spec_l1Words.l0.c : LoopCon := ⟨1000, 6, [0, 1, 4, 5], ⟨[(0, .bor none R0 []), (1, .int .i64 0), (4, .bool false), (5, .int .i64 0)], [], 1000⟩, [(.sl R0), (.int .i64), .bool, (.int .i64)], [⟨.ret, [4], ⟨[(4, .bool false)], [], 1000⟩, [.bool]⟩, ⟨.exit 0, [0, 1, 4], ⟨[(0, .bor none R0 []), (1, .int .i64 0), (4, .bool false)], [], 1000⟩, [(.sl R0), (.int .i64), .bool]⟩], fun (p : List Int × Int × Bool × Int) => f_spec_l1Words.l0 N p.1 p.2.1 p.2.2.1 p.2.2.2⟩
noncomputable abbrev K182 : Cons := [(60, C60)]
noncomputable abbrev L182 : List (Nat × Loops) := [(182, [(2, f_spec_l1Words.l0.c)])]
abbrev Q182 : List (Nat × List (Int × Nat) × Nat) := []
noncomputable abbrev X182 : Nat → Ctx := ctxOf tb K182 L182 Q182
theorem f_spec_l1Words.l0.ok : ∀ n p, (fun (p : List Int × Int × Bool × Int) => f_spec_l1Words.l0 n p.1 p.2.1 p.2.2.1 p.2.2.2) p = iterD (roundOf fs X182 6 182 2 false f_spec_l1Words.l0.c) n p :=
  iter_of (l := fun n => fun (p : List Int × Int × Bool × Int) => f_spec_l1Words.l0 n p.1 p.2.1 p.2.2.1 p.2.2.2) (fun _ => rfl) (fun n p => by kernel_rfl)
theorem E182 : ∀ x, funRun fs X182 6 182 C182 x = C182.fn x := fun x => by kernel_rfl
theorem B182 : ConB Tryz.prog 182 C182 := ConB.make FS MIX TY (cons := K182) (L := L182) (ptrs := Q182) ⟨S60, trivial⟩ trivial ⟨⟨⟨N, fun p => f_spec_l1Words.l0.ok N p⟩, trivial⟩, trivial⟩ rfl rfl E182
theorem S182 : ConS Tryz.prog 182 C182 := B182.call rfl
/-! spec.FrameOk: function 130 -/
noncomputable def f_spec_FrameOk (x0 : Int) (x1 : List Int) (x2 : Bool) : Option (Bool) :=
  bif (decide (x0 = (0 : Int))) then
    some (decide ((x1.length : Int) = (0 : Int)))
  else
    (f_spec_l1In x0 0 2).bind fun y181 =>
    bif y181 then
      (f_spec_l1Words x1 4).bind fun y182 =>
      some y182
    else
      some false
noncomputable def C130 : Con := ⟨[(.B, true, [(.int .i64), (.sl R0), .bool])], [(false, [.bool])], [(.int .i64), (.sl R0), .bool], [.bool], fun (p : Int × List Int × Bool) => f_spec_FrameOk p.1 p.2.1 p.2.2⟩
noncomputable abbrev K130 : Cons := [(60, C60), (182, C182)]
noncomputable abbrev L130 : List (Nat × Loops) := []
abbrev Q130 : List (Nat × List (Int × Nat) × Nat) := []
noncomputable abbrev X130 : Nat → Ctx := ctxOf tb K130 L130 Q130
theorem E130 : ∀ x, funRun fs X130 6 130 C130 x = C130.fn x := fun x => by kernel_rfl
theorem B130 : ConB Tryz.prog 130 C130 := ConB.make FS MIX TY (cons := K130) (L := L130) (ptrs := Q130) ⟨S60, S182, trivial⟩ trivial trivial rfl rfl E130
theorem S130 : ConS Tryz.prog 130 C130 := B130.call rfl
/-! spec.HomeOk: function 131 -/
noncomputable def f_spec_HomeOk.l0 : Nat → Int → Bool → Int → (List Int) → Int → (List Bool) → Bool → Int → Bool → Int → (List (Int × Bool)) → Option ((Bool) ⊕ (Bool))
  | 0, _, _, _, _, _, _, _, _, _, _, _ => none
  | n + 1, p188, p189, p190, p191, p192, p193, p194, p195, p196, p197, p198 =>
    bif (decide (p190 < (p198.length : Int))) then
      bif ((decide ((0 : Int) ≤ p190)) && (decide (p190 < (p198.length : Int)))) then
      (f_spec_l1In ((p198.getD p190.toNat (0, false)).1) 0 (IntKind.wrap .i64 (p188 - (1 : Int)))).bind fun y199 =>
      bif (!y199) then
        some (.inl false)
      else
        f_spec_HomeOk.l0 n p188 p189 (IntKind.wrap .i64 (p190 + (1 : Int))) p191 p192 p193 p194 p195 p196 p197 p198
      else none
    else
      some (.inr p189)
noncomputable def f_spec_HomeOk (x0 : List Int) (x1 : Int) (x2 : List Bool) (x3 : Bool) (x4 : Int) (x5 : Bool) (x6 : Int) (x7 : List (Int × Bool)) (x8 : Int) : Option (Bool) :=
  (f_spec_l1In x8 1 4).bind fun y183 =>
  bif (!y183) then
    some false
  else
    (f_spec_l1Words x0 4).bind fun y184 =>
    bif (!y184) then
      some false
    else
      (f_spec_l1In x1 (-1) (IntKind.wrap .i64 (x8 - (1 : Int)))).bind fun y185 =>
      bif (!y185) then
        some false
      else
        bif (!(decide ((x2.length : Int) = x8))) then
          some false
        else
          (f_spec_l1In x4 0 (IntKind.wrap .i64 (x8 - (1 : Int)))).bind fun y186 =>
          bif (!y186) then
            some false
          else
            (f_spec_l1In x6 0 x8).bind fun y187 =>
            bif (!y187) then
              some false
            else
              bif (decide ((12 : Int) < (x7.length : Int))) then
                some false
              else
                (f_spec_HomeOk.l0 N x8 false 0 x0 x1 x2 x3 x4 x5 x6 x7).bind fun r200 =>
                cs r200 (fun a201 =>
                  some a201) (fun b202 =>
                  some true)
noncomputable def C131 : Con := ⟨[(.B, true, [(.sl R0), (.int .i64), (.sl R2), .bool, (.int .i64), .bool, (.int .i64), (.sl R3)]), (.B, false, [(.int .i64)])], [(false, [.bool])], [(.sl R0), (.int .i64), (.sl R2), .bool, (.int .i64), .bool, (.int .i64), (.sl R3), (.int .i64)], [.bool], fun (p : List Int × Int × List Bool × Bool × Int × Bool × Int × (List (Int × Bool)) × Int) => f_spec_HomeOk p.1 p.2.1 p.2.2.1 p.2.2.2.1 p.2.2.2.2.1 p.2.2.2.2.2.1 p.2.2.2.2.2.2.1 p.2.2.2.2.2.2.2.1 p.2.2.2.2.2.2.2.2⟩
noncomputable def f_spec_HomeOk.l0.c : LoopCon := ⟨1000, 6, [1, 2, 4, 5], ⟨[(1, .int .i64 0), (2, .ptr 1000 0), (4, .bool false), (5, .int .i64 0)], [(1000, .box [.bor none R0 [], .int .i64 0, .bor none R2 [], .bool false, .int .i64 0, .bool false, .int .i64 0, .bor none R3 []])], 1001⟩, [(.int .i64), .bool, (.int .i64), (.sl R0), (.int .i64), (.sl R2), .bool, (.int .i64), .bool, (.int .i64), (.sl R3)], [⟨.ret, [4], ⟨[(4, .bool false)], [], 1000⟩, [.bool]⟩, ⟨.exit 0, [4], ⟨[(4, .bool false)], [], 1000⟩, [.bool]⟩], fun (p : Int × Bool × Int × List Int × Int × List Bool × Bool × Int × Bool × Int × (List (Int × Bool))) => f_spec_HomeOk.l0 N p.1 p.2.1 p.2.2.1 p.2.2.2.1 p.2.2.2.2.1 p.2.2.2.2.2.1 p.2.2.2.2.2.2.1 p.2.2.2.2.2.2.2.1 p.2.2.2.2.2.2.2.2.1 p.2.2.2.2.2.2.2.2.2.1 p.2.2.2.2.2.2.2.2.2.2⟩
noncomputable abbrev K131 : Cons := [(60, C60), (182, C182)]
noncomputable abbrev L131 : List (Nat × Loops) := [(131, [(4, f_spec_HomeOk.l0.c)])]
abbrev Q131 : List (Nat × List (Int × Nat) × Nat) := []
noncomputable abbrev X131 : Nat → Ctx := ctxOf tb K131 L131 Q131
theorem f_spec_HomeOk.l0.ok : ∀ n p, (fun (p : Int × Bool × Int × List Int × Int × List Bool × Bool × Int × Bool × Int × (List (Int × Bool))) => f_spec_HomeOk.l0 n p.1 p.2.1 p.2.2.1 p.2.2.2.1 p.2.2.2.2.1 p.2.2.2.2.2.1 p.2.2.2.2.2.2.1 p.2.2.2.2.2.2.2.1 p.2.2.2.2.2.2.2.2.1 p.2.2.2.2.2.2.2.2.2.1 p.2.2.2.2.2.2.2.2.2.2) p = iterD (roundOf fs X131 6 131 4 false f_spec_HomeOk.l0.c) n p :=
  iter_of (l := fun n => fun (p : Int × Bool × Int × List Int × Int × List Bool × Bool × Int × Bool × Int × (List (Int × Bool))) => f_spec_HomeOk.l0 n p.1 p.2.1 p.2.2.1 p.2.2.2.1 p.2.2.2.2.1 p.2.2.2.2.2.1 p.2.2.2.2.2.2.1 p.2.2.2.2.2.2.2.1 p.2.2.2.2.2.2.2.2.1 p.2.2.2.2.2.2.2.2.2.1 p.2.2.2.2.2.2.2.2.2.2) (fun _ => rfl) (fun n p => by kernel_rfl)
theorem E131 : ∀ x, funRun fs X131 6 131 C131 x = C131.fn x := fun x => by kernel_rfl
theorem B131 : ConB Tryz.prog 131 C131 := ConB.make FS MIX TY (cons := K131) (L := L131) (ptrs := Q131) ⟨S60, S182, trivial⟩ trivial ⟨⟨⟨N, fun p => f_spec_HomeOk.l0.ok N p⟩, trivial⟩, trivial⟩ rfl rfl E131
theorem S131 : ConS Tryz.prog 131 C131 := B131.call rfl
/-! spec.MsgOk: function 113 -/
noncomputable def f_spec_MsgOk (x0 : Int) (x1 : Int) (x2 : Bool) (x3 : List Int) : Option (Bool) :=
  bif (decide (x0 = (3 : Int))) then
    bif (decide (x0 = (3 : Int))) then
      (f_spec_l1In x0 1 7).bind fun y203 =>
      bif y203 then
        (f_spec_l1In x1 0 5).bind fun y204 =>
        bif y204 then
          (f_spec_l1Words x3 4).bind fun y205 =>
          some y205
        else
          some false
      else
        some false
    else
      (f_spec_l1In x0 1 7).bind fun y206 =>
      bif y206 then
        (f_spec_l1In x1 0 5).bind fun y207 =>
        bif y207 then
          bif (decide (x0 = (6 : Int))) then
            (f_spec_l1Words x3 4).bind fun y208 =>
            some y208
          else
            bif (!x2) then
              (f_spec_l1Words x3 4).bind fun y209 =>
              some y209
            else
              some false
        else
          some false
      else
        some false
  else
    bif (decide (x0 = (7 : Int))) then
      bif (decide (x0 = (3 : Int))) then
        (f_spec_l1In x0 1 7).bind fun y210 =>
        bif y210 then
          (f_spec_l1In x1 0 5).bind fun y211 =>
          bif y211 then
            (f_spec_l1Words x3 4).bind fun y212 =>
            some y212
          else
            some false
        else
          some false
      else
        (f_spec_l1In x0 1 7).bind fun y213 =>
        bif y213 then
          (f_spec_l1In x1 0 5).bind fun y214 =>
          bif y214 then
            bif (decide (x0 = (6 : Int))) then
              (f_spec_l1Words x3 4).bind fun y215 =>
              some y215
            else
              bif (!x2) then
                (f_spec_l1Words x3 4).bind fun y216 =>
                some y216
              else
                some false
          else
            some false
        else
          some false
    else
      bif (decide (x0 = (3 : Int))) then
        (f_spec_l1In x0 1 7).bind fun y217 =>
        bif y217 then
          (f_spec_l1In x1 0 5).bind fun y218 =>
          bif y218 then
            (f_spec_l1Words x3 0).bind fun y219 =>
            some y219
          else
            some false
        else
          some false
      else
        (f_spec_l1In x0 1 7).bind fun y220 =>
        bif y220 then
          (f_spec_l1In x1 0 5).bind fun y221 =>
          bif y221 then
            bif (decide (x0 = (6 : Int))) then
              (f_spec_l1Words x3 0).bind fun y222 =>
              some y222
            else
              bif (!x2) then
                (f_spec_l1Words x3 0).bind fun y223 =>
                some y223
              else
                some false
          else
            some false
        else
          some false
noncomputable def C113 : Con := ⟨[(.B, true, [(.int .i64), (.int .i64), .bool, (.sl R0)])], [(false, [.bool])], [(.int .i64), (.int .i64), .bool, (.sl R0)], [.bool], fun (p : Int × Int × Bool × List Int) => f_spec_MsgOk p.1 p.2.1 p.2.2.1 p.2.2.2⟩
noncomputable abbrev K113 : Cons := [(60, C60), (182, C182)]
noncomputable abbrev L113 : List (Nat × Loops) := []
abbrev Q113 : List (Nat × List (Int × Nat) × Nat) := []
noncomputable abbrev X113 : Nat → Ctx := ctxOf tb K113 L113 Q113
theorem E113 : ∀ x, funRun fs X113 6 113 C113 x = C113.fn x := fun x => by kernel_rfl
theorem B113 : ConB Tryz.prog 113 C113 := ConB.make FS MIX TY (cons := K113) (L := L113) (ptrs := Q113) ⟨S60, S182, trivial⟩ trivial trivial rfl rfl E113
theorem S113 : ConS Tryz.prog 113 C113 := B113.call rfl
/-! spec.SenderOk: function 132 -/
noncomputable def f_spec_SenderOk.l0 : Nat → Bool → Int → Int → (List (Int × Int × Bool × List Int)) → Option ((Bool) ⊕ (Bool × Int × (List (Int × Int × Bool × List Int))))
  | 0, _, _, _, _ => none
  | n + 1, p224, p225, p226, p227 =>
    bif (decide (p225 < (p227.length : Int))) then
      bif ((decide ((0 : Int) ≤ p225)) && (decide (p225 < (p227.length : Int)))) then
      (f_spec_MsgOk ((p227.getD p225.toNat (0, 0, false, [])).1) ((p227.getD p225.toNat (0, 0, false, [])).2.1) ((p227.getD p225.toNat (0, 0, false, [])).2.2.1) ((p227.getD p225.toNat (0, 0, false, [])).2.2.2)).bind fun y228 =>
      bif (!y228) then
        some (.inl false)
      else
        f_spec_SenderOk.l0 n p224 (IntKind.wrap .i64 (p225 + (1 : Int))) p226 p227
      else none
    else
      some (.inr (p224, p226, p227))
noncomputable def f_spec_SenderOk (x0 : Int) (x1 : List (Int × Int × Bool × List Int)) : Option (Bool) :=
  (f_spec_SenderOk.l0 N false 0 x0 x1).bind fun r229 =>
  cs r229 (fun a230 =>
    some a230) (fun b231 =>
    (f_spec_l1In b231.2.1 0 100000).bind fun y232 =>
    bif y232 then
      bif (decide ((b231.2.2.length : Int) ≤ (30 : Int))) then
        some (decide ((IntKind.wrap .i64 (b231.2.1 + (b231.2.2.length : Int))) ≤ (100000 : Int)))
      else
        some false
    else
      some false)
noncomputable def C132 : Con := ⟨[(.B, true, [(.int .i64), (.sl R5)])], [(false, [.bool])], [(.int .i64), (.sl R5)], [.bool], fun (p : Int × (List (Int × Int × Bool × List Int))) => f_spec_SenderOk p.1 p.2⟩
noncomputable def f_spec_SenderOk.l0.c : LoopCon := ⟨1000, 6, [1, 2, 3], ⟨[(1, .ptr 1000 0), (2, .bool false), (3, .int .i64 0)], [(1000, .box [.int .i64 0, .bor none R5 []])], 1001⟩, [.bool, (.int .i64), (.int .i64), (.sl R5)], [⟨.ret, [2], ⟨[(2, .bool false)], [], 1000⟩, [.bool]⟩, ⟨.exit 0, [1, 2], ⟨[(1, .ptr 1000 0), (2, .bool false)], [(1000, .box [.int .i64 0, .bor none R5 []])], 1001⟩, [.bool, (.int .i64), (.sl R5)]⟩], fun (p : Bool × Int × Int × (List (Int × Int × Bool × List Int))) => f_spec_SenderOk.l0 N p.1 p.2.1 p.2.2.1 p.2.2.2⟩
noncomputable abbrev K132 : Cons := [(60, C60), (113, C113)]
noncomputable abbrev L132 : List (Nat × Loops) := [(132, [(2, f_spec_SenderOk.l0.c)])]
abbrev Q132 : List (Nat × List (Int × Nat) × Nat) := []
noncomputable abbrev X132 : Nat → Ctx := ctxOf tb K132 L132 Q132
theorem f_spec_SenderOk.l0.ok : ∀ n p, (fun (p : Bool × Int × Int × (List (Int × Int × Bool × List Int))) => f_spec_SenderOk.l0 n p.1 p.2.1 p.2.2.1 p.2.2.2) p = iterD (roundOf fs X132 6 132 2 false f_spec_SenderOk.l0.c) n p :=
  iter_of (l := fun n => fun (p : Bool × Int × Int × (List (Int × Int × Bool × List Int))) => f_spec_SenderOk.l0 n p.1 p.2.1 p.2.2.1 p.2.2.2) (fun _ => rfl) (fun n p => by kernel_rfl)
theorem E132 : ∀ x, funRun fs X132 6 132 C132 x = C132.fn x := fun x => by kernel_rfl
theorem B132 : ConB Tryz.prog 132 C132 := ConB.make FS MIX TY (cons := K132) (L := L132) (ptrs := Q132) ⟨S60, S113, trivial⟩ trivial ⟨⟨⟨N, fun p => f_spec_SenderOk.l0.ok N p⟩, trivial⟩, trivial⟩ rfl rfl E132
theorem S132 : ConS Tryz.prog 132 C132 := B132.call rfl
/-! spec.NodeOk: function 48 -/
noncomputable def f_spec_NodeOk.l1 : Nat → Int → Bool → Int → Int → (List (Int × List Int × Bool)) → (List (List Int × Int × List Bool × Bool × Int × Bool × Int × (List (Int × Bool)))) → (List (Int × (List (Int × Int × Bool × List Int)))) → (List Int) → Option ((Bool) ⊕ (Bool))
  | 0, _, _, _, _, _, _, _, _ => none
  | n + 1, p248, p249, p250, p251, p252, p253, p254, p255 =>
    bif (decide (p250 < p248)) then
      bif ((decide ((0 : Int) ≤ p250)) && (decide (p250 < (p254.length : Int)))) then
      (f_spec_SenderOk ((p254.getD p250.toNat (0, [])).1) ((p254.getD p250.toNat (0, [])).2)).bind fun y256 =>
      bif (!y256) then
        some (.inl false)
      else
        bif ((decide ((0 : Int) ≤ p250)) && (decide (p250 < (p255.length : Int)))) then
        (f_spec_l1In (p255.getD p250.toNat 0) 0 100000).bind fun y257 =>
        bif (!y257) then
          some (.inl false)
        else
          f_spec_NodeOk.l1 n p248 p249 (IntKind.wrap .i64 (p250 + (1 : Int))) p251 p252 p253 p254 p255
        else none
      else none
    else
      some (.inr p249)
noncomputable def f_spec_NodeOk.l0 : Nat → Int → Bool → Int → Int → (List (Int × List Int × Bool)) → (List (List Int × Int × List Bool × Bool × Int × Bool × Int × (List (Int × Bool)))) → (List (Int × (List (Int × Int × Bool × List Int)))) → (List Int) → Option ((Bool) ⊕ (Int × Bool × Int × (List (Int × List Int × Bool)) × (List (List Int × Int × List Bool × Bool × Int × Bool × Int × (List (Int × Bool)))) × (List (Int × (List (Int × Int × Bool × List Int)))) × List Int))
  | 0, _, _, _, _, _, _, _, _ => none
  | n + 1, p235, p236, p237, p238, p239, p240, p241, p242 =>
    bif (decide (p237 < (6 : Int))) then
      bif ((decide ((0 : Int) ≤ p237)) && (decide (p237 < (p239.length : Int)))) then
      (f_spec_FrameOk ((p239.getD p237.toNat (0, [], false)).1) ((p239.getD p237.toNat (0, [], false)).2.1) ((p239.getD p237.toNat (0, [], false)).2.2)).bind fun y243 =>
      bif (!y243) then
        some (.inl false)
      else
        bif ((decide ((0 : Int) ≤ p237)) && (decide (p237 < (p240.length : Int)))) then
        (f_spec_HomeOk ((p240.getD p237.toNat ([], 0, [], false, 0, false, 0, [])).1) ((p240.getD p237.toNat ([], 0, [], false, 0, false, 0, [])).2.1) ((p240.getD p237.toNat ([], 0, [], false, 0, false, 0, [])).2.2.1) ((p240.getD p237.toNat ([], 0, [], false, 0, false, 0, [])).2.2.2.1) ((p240.getD p237.toNat ([], 0, [], false, 0, false, 0, [])).2.2.2.2.1) ((p240.getD p237.toNat ([], 0, [], false, 0, false, 0, [])).2.2.2.2.2.1) ((p240.getD p237.toNat ([], 0, [], false, 0, false, 0, [])).2.2.2.2.2.2.1) ((p240.getD p237.toNat ([], 0, [], false, 0, false, 0, [])).2.2.2.2.2.2.2) p235).bind fun y244 =>
        bif (!y244) then
          some (.inl false)
        else
          f_spec_NodeOk.l0 n p235 p236 (IntKind.wrap .i64 (p237 + (1 : Int))) p238 p239 p240 p241 p242
        else none
      else none
    else
      some (.inr (p235, p236, p238, p239, p240, p241, p242))
noncomputable def f_spec_NodeOk (x0 : Int) (x1 : List (Int × List Int × Bool)) (x2 : List (List Int × Int × List Bool × Bool × Int × Bool × Int × (List (Int × Bool)))) (x3 : List (Int × (List (Int × Int × Bool × List Int)))) (x4 : List Int) (x5 : Int) : Option (Bool) :=
  (f_spec_l1In x5 1 4).bind fun y233 =>
  bif (!y233) then
    some false
  else
    (f_spec_l1In x0 0 (IntKind.wrap .i64 (x5 - (1 : Int)))).bind fun y234 =>
    bif (!y234) then
      some false
    else
      bif (!(decide ((x1.length : Int) = (6 : Int)))) then
        some false
      else
        bif (!(decide ((x2.length : Int) = (6 : Int)))) then
          some false
        else
          bif (!(decide ((x3.length : Int) = x5))) then
            some false
          else
            bif (!(decide ((x4.length : Int) = x5))) then
              some false
            else
              (f_spec_NodeOk.l0 N x5 false 0 x0 x1 x2 x3 x4).bind fun r245 =>
              cs r245 (fun a246 =>
                some a246) (fun b247 =>
                (f_spec_NodeOk.l1 N b247.1 b247.2.1 0 b247.2.2.1 b247.2.2.2.1 b247.2.2.2.2.1 b247.2.2.2.2.2.1 b247.2.2.2.2.2.2).bind fun r258 =>
                cs r258 (fun a259 =>
                  some a259) (fun b260 =>
                  some true))
noncomputable def C48 : Con := ⟨[(.B, true, [(.int .i64), (.sl R1), (.sl R4), (.sl R6), (.sl R0)]), (.B, false, [(.int .i64)])], [(false, [.bool])], [(.int .i64), (.sl R1), (.sl R4), (.sl R6), (.sl R0), (.int .i64)], [.bool], fun (p : Int × (List (Int × List Int × Bool)) × (List (List Int × Int × List Bool × Bool × Int × Bool × Int × (List (Int × Bool)))) × (List (Int × (List (Int × Int × Bool × List Int)))) × List Int × Int) => f_spec_NodeOk p.1 p.2.1 p.2.2.1 p.2.2.2.1 p.2.2.2.2.1 p.2.2.2.2.2⟩
noncomputable def f_spec_NodeOk.l0.c : LoopCon := ⟨1000, 6, [1, 2, 4, 5], ⟨[(1, .int .i64 0), (2, .ptr 1000 0), (4, .bool false), (5, .int .i64 0)], [(1000, .box [.int .i64 0, .bor none R1 [], .bor none R4 [], .bor none R6 [], .bor none R0 []])], 1001⟩, [(.int .i64), .bool, (.int .i64), (.int .i64), (.sl R1), (.sl R4), (.sl R6), (.sl R0)], [⟨.ret, [4], ⟨[(4, .bool false)], [], 1000⟩, [.bool]⟩, ⟨.exit 0, [1, 2, 4], ⟨[(1, .int .i64 0), (2, .ptr 1000 0), (4, .bool false)], [(1000, .box [.int .i64 0, .bor none R1 [], .bor none R4 [], .bor none R6 [], .bor none R0 []])], 1001⟩, [(.int .i64), .bool, (.int .i64), (.sl R1), (.sl R4), (.sl R6), (.sl R0)]⟩], fun (p : Int × Bool × Int × Int × (List (Int × List Int × Bool)) × (List (List Int × Int × List Bool × Bool × Int × Bool × Int × (List (Int × Bool)))) × (List (Int × (List (Int × Int × Bool × List Int)))) × List Int) => f_spec_NodeOk.l0 N p.1 p.2.1 p.2.2.1 p.2.2.2.1 p.2.2.2.2.1 p.2.2.2.2.2.1 p.2.2.2.2.2.2.1 p.2.2.2.2.2.2.2⟩
noncomputable def f_spec_NodeOk.l1.c : LoopCon := ⟨1000, 6, [1, 2, 4, 6], ⟨[(1, .int .i64 0), (2, .ptr 1000 0), (4, .bool false), (6, .int .i64 0)], [(1000, .box [.int .i64 0, .bor none R1 [], .bor none R4 [], .bor none R6 [], .bor none R0 []])], 1001⟩, [(.int .i64), .bool, (.int .i64), (.int .i64), (.sl R1), (.sl R4), (.sl R6), (.sl R0)], [⟨.ret, [4], ⟨[(4, .bool false)], [], 1000⟩, [.bool]⟩, ⟨.exit 2, [4], ⟨[(4, .bool false)], [], 1000⟩, [.bool]⟩], fun (p : Int × Bool × Int × Int × (List (Int × List Int × Bool)) × (List (List Int × Int × List Bool × Bool × Int × Bool × Int × (List (Int × Bool)))) × (List (Int × (List (Int × Int × Bool × List Int)))) × List Int) => f_spec_NodeOk.l1 N p.1 p.2.1 p.2.2.1 p.2.2.2.1 p.2.2.2.2.1 p.2.2.2.2.2.1 p.2.2.2.2.2.2.1 p.2.2.2.2.2.2.2⟩
noncomputable abbrev K48 : Cons := [(60, C60), (130, C130), (131, C131), (132, C132)]
noncomputable abbrev L48 : List (Nat × Loops) := [(48, [(4, f_spec_NodeOk.l0.c), (9, f_spec_NodeOk.l1.c)])]
abbrev Q48 : List (Nat × List (Int × Nat) × Nat) := []
noncomputable abbrev X48 : Nat → Ctx := ctxOf tb K48 L48 Q48
theorem f_spec_NodeOk.l0.ok : ∀ n p, (fun (p : Int × Bool × Int × Int × (List (Int × List Int × Bool)) × (List (List Int × Int × List Bool × Bool × Int × Bool × Int × (List (Int × Bool)))) × (List (Int × (List (Int × Int × Bool × List Int)))) × List Int) => f_spec_NodeOk.l0 n p.1 p.2.1 p.2.2.1 p.2.2.2.1 p.2.2.2.2.1 p.2.2.2.2.2.1 p.2.2.2.2.2.2.1 p.2.2.2.2.2.2.2) p = iterD (roundOf fs X48 6 48 4 false f_spec_NodeOk.l0.c) n p :=
  iter_of (l := fun n => fun (p : Int × Bool × Int × Int × (List (Int × List Int × Bool)) × (List (List Int × Int × List Bool × Bool × Int × Bool × Int × (List (Int × Bool)))) × (List (Int × (List (Int × Int × Bool × List Int)))) × List Int) => f_spec_NodeOk.l0 n p.1 p.2.1 p.2.2.1 p.2.2.2.1 p.2.2.2.2.1 p.2.2.2.2.2.1 p.2.2.2.2.2.2.1 p.2.2.2.2.2.2.2) (fun _ => rfl) (fun n p => by kernel_rfl)
theorem f_spec_NodeOk.l1.ok : ∀ n p, (fun (p : Int × Bool × Int × Int × (List (Int × List Int × Bool)) × (List (List Int × Int × List Bool × Bool × Int × Bool × Int × (List (Int × Bool)))) × (List (Int × (List (Int × Int × Bool × List Int)))) × List Int) => f_spec_NodeOk.l1 n p.1 p.2.1 p.2.2.1 p.2.2.2.1 p.2.2.2.2.1 p.2.2.2.2.2.1 p.2.2.2.2.2.2.1 p.2.2.2.2.2.2.2) p = iterD (roundOf fs X48 6 48 9 false f_spec_NodeOk.l1.c) n p :=
  iter_of (l := fun n => fun (p : Int × Bool × Int × Int × (List (Int × List Int × Bool)) × (List (List Int × Int × List Bool × Bool × Int × Bool × Int × (List (Int × Bool)))) × (List (Int × (List (Int × Int × Bool × List Int)))) × List Int) => f_spec_NodeOk.l1 n p.1 p.2.1 p.2.2.1 p.2.2.2.1 p.2.2.2.2.1 p.2.2.2.2.2.1 p.2.2.2.2.2.2.1 p.2.2.2.2.2.2.2) (fun _ => rfl) (fun n p => by kernel_rfl)
theorem E48 : ∀ x, funRun fs X48 6 48 C48 x = C48.fn x := fun x => by kernel_rfl
theorem B48 : ConB Tryz.prog 48 C48 := ConB.make FS MIX TY (cons := K48) (L := L48) (ptrs := Q48) ⟨S60, S130, S131, S132, trivial⟩ trivial ⟨⟨⟨N, fun p => f_spec_NodeOk.l0.ok N p⟩, ⟨N, fun p => f_spec_NodeOk.l1.ok N p⟩, trivial⟩, trivial⟩ rfl rfl E48
theorem S48 : ConS Tryz.prog 48 C48 := B48.call rfl
/-! spec.l5Less: function 78 -/
noncomputable def f_spec_l5Less (x0 : Int) (x1 : List Int) (x2 : Bool) (x3 : Bool) : Option (Bool) :=
  bif (decide (x0 = (0 : Int))) then
    some true
  else
    bif x3 then
      some (decide (x0 = (1 : Int)))
    else
      some false
noncomputable def C78 : Con := ⟨[(.B, true, [(.int .i64), (.sl R0), .bool]), (.B, false, [.bool])], [(false, [.bool])], [(.int .i64), (.sl R0), .bool, .bool], [.bool], fun (p : Int × List Int × Bool × Bool) => f_spec_l5Less p.1 p.2.1 p.2.2.1 p.2.2.2⟩
noncomputable abbrev K78 : Cons := []
noncomputable abbrev L78 : List (Nat × Loops) := []
abbrev Q78 : List (Nat × List (Int × Nat) × Nat) := []
noncomputable abbrev X78 : Nat → Ctx := ctxOf tb K78 L78 Q78
theorem E78 : ∀ x, funRun fs X78 6 78 C78 x = C78.fn x := fun x => by kernel_rfl
theorem B78 : ConB Tryz.prog 78 C78 := ConB.make FS MIX TY (cons := K78) (L := L78) (ptrs := Q78) trivial trivial trivial rfl rfl E78
theorem S78 : ConS Tryz.prog 78 C78 := B78.call rfl
/-! spec.Queue: function 79 -/
noncomputable def f_spec_Queue (x0 : Int) (x1 : List (Int × Int × Bool × List Int)) (x2 : Int) (x3 : Int) (x4 : Bool) (x5 : List Int) : Option (Int × (List (Int × Int × Bool × List Int)) × Bool) :=
  (f_spec_l2Sender x0 x1).bind fun y261 =>
  (f_spec_SenderOk x0 x1).bind fun y262 =>
  bif (!y262) then
    some (y261.1, y261.2, false)
  else
    (f_spec_MsgOk x2 x3 x4 x5).bind fun y263 =>
    bif (!y263) then
      some (y261.1, y261.2, false)
    else
      bif (decide ((x1.length : Int) = (30 : Int))) then
        some (y261.1, y261.2, false)
      else
        bif (decide ((IntKind.wrap .i64 (x0 + (x1.length : Int))) = (100000 : Int))) then
          some (y261.1, y261.2, false)
        else
          (f_spec_l1Msg x2 x3 x4 x5).bind fun y264 =>
          bif (Nat.blt (y261.2.length + ([(y264.1, y264.2.1, y264.2.2.1, y264.2.2.2)] : List (Int × Int × Bool × List Int)).length) 2932031007402) then
          (some ((y261.2 ++ ([(y264.1, y264.2.1, y264.2.2.1, y264.2.2.2)] : List (Int × Int × Bool × List Int))) : List (Int × Int × Bool × List Int))).bind fun z265 =>
          some (y261.1, z265, true)
          else none
noncomputable def C79 : Con := ⟨[(.B, true, [(.int .i64), (.sl R5)]), (.B, true, [(.int .i64), (.int .i64), .bool, (.sl R0)])], [(true, [(.int .i64), (.sl R5)]), (false, [.bool])], [(.int .i64), (.sl R5), (.int .i64), (.int .i64), .bool, (.sl R0)], [(.int .i64), (.sl R5), .bool], fun (p : Int × (List (Int × Int × Bool × List Int)) × Int × Int × Bool × List Int) => f_spec_Queue p.1 p.2.1 p.2.2.1 p.2.2.2.1 p.2.2.2.2.1 p.2.2.2.2.2⟩
noncomputable abbrev K79 : Cons := [(113, C113), (132, C132), (153, C153), (154, C154)]
noncomputable abbrev L79 : List (Nat × Loops) := []
abbrev Q79 : List (Nat × List (Int × Nat) × Nat) := []
noncomputable abbrev X79 : Nat → Ctx := ctxOf tb K79 L79 Q79
theorem E79 : ∀ x, funRun fs X79 6 79 C79 x = C79.fn x := fun x => by kernel_rfl
theorem B79 : ConB Tryz.prog 79 C79 := ConB.make FS MIX TY (cons := K79) (L := L79) (ptrs := Q79) ⟨S113, S132, S153, S154, trivial⟩ trivial trivial rfl rfl E79
theorem S79 : ConS Tryz.prog 79 C79 := B79.call rfl
/-! spec.Want: function 19 -/
noncomputable def f_spec_Want (x0 : Int) (x1 : List (Int × List Int × Bool)) (x2 : List (List Int × Int × List Bool × Bool × Int × Bool × Int × (List (Int × Bool)))) (x3 : List (Int × (List (Int × Int × Bool × List Int)))) (x4 : List Int) (x5 : Int) (x6 : Int) (x7 : Bool) : Option (Int × (List (Int × List Int × Bool)) × (List (List Int × Int × List Bool × Bool × Int × Bool × Int × (List (Int × Bool)))) × (List (Int × (List (Int × Int × Bool × List Int)))) × List Int × Bool) :=
  (f_spec_l5Copy x0 x1 x2 x3 x4).bind fun y266 =>
  (f_spec_NodeOk x0 x1 x2 x3 x4 x5).bind fun y267 =>
  bif (!y267) then
    some (y266.1, y266.2.1, y266.2.2.1, y266.2.2.2.1, y266.2.2.2.2, false)
  else
    (f_spec_l1In x6 0 5).bind fun y268 =>
    bif (!y268) then
      some (y266.1, y266.2.1, y266.2.2.1, y266.2.2.2.1, y266.2.2.2.2, false)
    else
      bif ((decide ((0 : Int) ≤ x6)) && (decide (x6 < (x1.length : Int)))) then
      bif (x1.getD x6.toNat (0, [], false)).2.2 then
        some (y266.1, y266.2.1, y266.2.2.1, y266.2.2.2.1, y266.2.2.2.2, false)
      else
        bif ((decide ((0 : Int) ≤ x6)) && (decide (x6 < (x1.length : Int)))) then
        (f_spec_l5Less ((x1.getD x6.toNat (0, [], false)).1) ((x1.getD x6.toNat (0, [], false)).2.1) ((x1.getD x6.toNat (0, [], false)).2.2) x7).bind fun y269 =>
        bif (!y269) then
          some (y266.1, y266.2.1, y266.2.2.1, y266.2.2.2.1, y266.2.2.2.2, false)
        else
          bif x7 then
            bif (decide (x5 = (0 : Int))) then none else
            bif ((decide ((0 : Int) ≤ (Int.tmod x6 x5))) && (decide ((Int.tmod x6 x5) < (x3.length : Int)))) then
            (f_spec_Queue ((x3.getD (Int.tmod x6 x5).toNat (0, [])).1) ((x3.getD (Int.tmod x6 x5).toNat (0, [])).2) 2 x6 false []).bind fun y270 =>
            bif (!y270.2.2) then
              some (y266.1, y266.2.1, y266.2.2.1, y266.2.2.2.1, y266.2.2.2.2, false)
            else
              bif (decide (x5 = (0 : Int))) then none else
              bif ((decide ((0 : Int) ≤ (Int.tmod x6 x5))) && (decide ((Int.tmod x6 x5) < (y266.2.2.2.1.length : Int)))) then
              (some ((y266.2.2.2.1.set (Int.tmod x6 x5).toNat (y270.1, y270.2.1)) : List (Int × (List (Int × Int × Bool × List Int))))).bind fun z271 =>
              bif ((decide ((0 : Int) ≤ x6)) && (decide (x6 < (y266.2.1.length : Int)))) then
              (some ((y266.2.1.set x6.toNat ((y266.2.1.getD x6.toNat (0, [], false)).1, (y266.2.1.getD x6.toNat (0, [], false)).2.1, true)) : List (Int × List Int × Bool))).bind fun z272 =>
              some (y266.1, z272, y266.2.2.1, z271, y266.2.2.2.2, true)
              else none
              else none
            else none
          else
            bif (decide (x5 = (0 : Int))) then none else
            bif ((decide ((0 : Int) ≤ (Int.tmod x6 x5))) && (decide ((Int.tmod x6 x5) < (x3.length : Int)))) then
            (f_spec_Queue ((x3.getD (Int.tmod x6 x5).toNat (0, [])).1) ((x3.getD (Int.tmod x6 x5).toNat (0, [])).2) 1 x6 false []).bind fun y273 =>
            bif (!y273.2.2) then
              some (y266.1, y266.2.1, y266.2.2.1, y266.2.2.2.1, y266.2.2.2.2, false)
            else
              bif (decide (x5 = (0 : Int))) then none else
              bif ((decide ((0 : Int) ≤ (Int.tmod x6 x5))) && (decide ((Int.tmod x6 x5) < (y266.2.2.2.1.length : Int)))) then
              (some ((y266.2.2.2.1.set (Int.tmod x6 x5).toNat (y273.1, y273.2.1)) : List (Int × (List (Int × Int × Bool × List Int))))).bind fun z274 =>
              bif ((decide ((0 : Int) ≤ x6)) && (decide (x6 < (y266.2.1.length : Int)))) then
              (some ((y266.2.1.set x6.toNat ((y266.2.1.getD x6.toNat (0, [], false)).1, (y266.2.1.getD x6.toNat (0, [], false)).2.1, true)) : List (Int × List Int × Bool))).bind fun z275 =>
              some (y266.1, z275, y266.2.2.1, z274, y266.2.2.2.2, true)
              else none
              else none
            else none
        else none
      else none
noncomputable def C19 : Con := ⟨[(.B, true, [(.int .i64), (.sl R1), (.sl R4), (.sl R6), (.sl R0)]), (.B, false, [(.int .i64)]), (.B, false, [(.int .i64)]), (.B, false, [.bool])], [(true, [(.int .i64), (.sl R1), (.sl R4), (.sl R6), (.sl R0)]), (false, [.bool])], [(.int .i64), (.sl R1), (.sl R4), (.sl R6), (.sl R0), (.int .i64), (.int .i64), .bool], [(.int .i64), (.sl R1), (.sl R4), (.sl R6), (.sl R0), .bool], fun (p : Int × (List (Int × List Int × Bool)) × (List (List Int × Int × List Bool × Bool × Int × Bool × Int × (List (Int × Bool)))) × (List (Int × (List (Int × Int × Bool × List Int)))) × List Int × Int × Int × Bool) => f_spec_Want p.1 p.2.1 p.2.2.1 p.2.2.2.1 p.2.2.2.2.1 p.2.2.2.2.2.1 p.2.2.2.2.2.2.1 p.2.2.2.2.2.2.2⟩
noncomputable abbrev K19 : Cons := [(48, C48), (60, C60), (77, C77), (78, C78), (79, C79)]
noncomputable abbrev L19 : List (Nat × Loops) := []
abbrev Q19 : List (Nat × List (Int × Nat) × Nat) := []
noncomputable abbrev X19 : Nat → Ctx := ctxOf tb K19 L19 Q19
theorem E19 : ∀ x, funRun fs X19 6 19 C19 x = C19.fn x := fun x => by kernel_rfl
theorem B19 : ConB Tryz.prog 19 C19 := ConB.make FS MIX TY (cons := K19) (L := L19) (ptrs := Q19) ⟨S48, S60, S77, S78, S79, trivial⟩ trivial trivial rfl rfl E19
theorem S19 : ConS Tryz.prog 19 C19 := B19.call rfl
/-! slices.Clone[[]loop.example/g00281/impl.Receiver,loop.example/g00281/impl.Receiver]: function 159 -/
noncomputable def f_slices_Clone_impl_Receiver_impl_Receiver (x0 : List Int) : Option (List Int) := bif Nat.blt (0 + x0.length) 17592186044416 then some x0 else none
noncomputable def C159 : Con := ⟨[(.B, false, [(.sl R0)])], [(false, [(.sl R0)])], [(.sl R0)], [(.sl R0)], f_slices_Clone_impl_Receiver_impl_Receiver⟩
noncomputable abbrev X159 : Nat → Ctx := ctxOf tb [] [] []
theorem E159 : ∀ x : List R0.den, bodyRun fs X159 6 159 C159 [] [] [.bor (some 1000) R0 x] [] = f_slices_Clone_impl_Receiver_impl_Receiver x := fun x => by kernel_rfl
theorem Z159 : bodyRun fs X159 6 159 C159 [] [] [.nil (some R0)] [] = f_slices_Clone_impl_Receiver_impl_Receiver ([] : List R0.den) := by kernel_rfl
theorem B159 : ConB Tryz.prog 159 C159 := ConB.copy FS MIX TY (cons := []) (L := []) (ptrs := []) trivial trivial trivial rfl E159 Z159
theorem S159 : ConS Tryz.prog 159 C159 := B159.call rfl
/-! slices.Clone[[]int,int]: function 146 -/
noncomputable def f_slices_Clone_int_int (x0 : List Int) : Option (List Int) := bif Nat.blt (0 + x0.length) 17592186044416 then some x0 else none
noncomputable def C146 : Con := ⟨[(.B, false, [(.sl R0)])], [(false, [(.sl R0)])], [(.sl R0)], [(.sl R0)], f_slices_Clone_int_int⟩
noncomputable abbrev X146 : Nat → Ctx := ctxOf tb [] [] []
theorem E146 : ∀ x : List R0.den, bodyRun fs X146 6 146 C146 [] [] [.bor (some 1000) R0 x] [] = f_slices_Clone_int_int x := fun x => by kernel_rfl
theorem Z146 : bodyRun fs X146 6 146 C146 [] [] [.nil (some R0)] [] = f_slices_Clone_int_int ([] : List R0.den) := by kernel_rfl
theorem B146 : ConB Tryz.prog 146 C146 := ConB.copy FS MIX TY (cons := []) (L := []) (ptrs := []) trivial trivial trivial rfl E146 Z146
theorem S146 : ConS Tryz.prog 146 C146 := B146.call rfl
/-! impl.copyFrame: function 160 -/
noncomputable def f_impl_copyFrame (x0 : Int) (x1 : List Int) (x2 : Bool) : Option (Int × List Int × Bool) :=
  (f_slices_Clone_int_int x1).bind fun y276 =>
  some (x0, y276, x2)
noncomputable def C160 : Con := ⟨[(.B, true, [(.int .i64), (.sl R0), .bool])], [(true, [(.int .i64), (.sl R0), .bool])], [(.int .i64), (.sl R0), .bool], [(.int .i64), (.sl R0), .bool], fun (p : Int × List Int × Bool) => f_impl_copyFrame p.1 p.2.1 p.2.2⟩
noncomputable abbrev K160 : Cons := [(146, C146)]
noncomputable abbrev L160 : List (Nat × Loops) := []
abbrev Q160 : List (Nat × List (Int × Nat) × Nat) := []
noncomputable abbrev X160 : Nat → Ctx := ctxOf tb K160 L160 Q160
theorem E160 : ∀ x, funRun fs X160 6 160 C160 x = C160.fn x := fun x => by kernel_rfl
theorem B160 : ConB Tryz.prog 160 C160 := ConB.make FS MIX TY (cons := K160) (L := L160) (ptrs := Q160) ⟨S146, trivial⟩ trivial trivial rfl rfl E160
theorem S160 : ConS Tryz.prog 160 C160 := B160.call rfl
/-! slices.Clone[[]bool,bool]: function 201 -/
noncomputable def f_slices_Clone_bool_bool (x0 : List Bool) : Option (List Bool) := bif Nat.blt (0 + x0.length) 140737488355328 then some x0 else none
noncomputable def C201 : Con := ⟨[(.B, false, [(.sl R2)])], [(false, [(.sl R2)])], [(.sl R2)], [(.sl R2)], f_slices_Clone_bool_bool⟩
noncomputable abbrev X201 : Nat → Ctx := ctxOf tb [] [] []
theorem E201 : ∀ x : List R2.den, bodyRun fs X201 6 201 C201 [] [] [.bor (some 1000) R2 x] [] = f_slices_Clone_bool_bool x := fun x => by kernel_rfl
theorem Z201 : bodyRun fs X201 6 201 C201 [] [] [.nil (some R2)] [] = f_slices_Clone_bool_bool ([] : List R2.den) := by kernel_rfl
theorem B201 : ConB Tryz.prog 201 C201 := ConB.copy FS MIX TY (cons := []) (L := []) (ptrs := []) trivial trivial trivial rfl E201 Z201
theorem S201 : ConS Tryz.prog 201 C201 := B201.call rfl
/-! slices.Clone[[]loop.example/g00281/impl.Wait,loop.example/g00281/impl.Wait]: function 202 -/
noncomputable def f_slices_Clone_impl_Wait_impl_Wait (x0 : List (Int × Bool)) : Option (List (Int × Bool)) := bif Nat.blt (0 + x0.length) 8796093022208 then some x0 else none
noncomputable def C202 : Con := ⟨[(.B, false, [(.sl R3)])], [(false, [(.sl R3)])], [(.sl R3)], [(.sl R3)], f_slices_Clone_impl_Wait_impl_Wait⟩
noncomputable abbrev X202 : Nat → Ctx := ctxOf tb [] [] []
theorem E202 : ∀ x : List R3.den, bodyRun fs X202 6 202 C202 [] [] [.bor (some 1000) R3 x] [] = f_slices_Clone_impl_Wait_impl_Wait x := fun x => by kernel_rfl
theorem Z202 : bodyRun fs X202 6 202 C202 [] [] [.nil (some R3)] [] = f_slices_Clone_impl_Wait_impl_Wait ([] : List R3.den) := by kernel_rfl
theorem B202 : ConB Tryz.prog 202 C202 := ConB.copy FS MIX TY (cons := []) (L := []) (ptrs := []) trivial trivial trivial rfl E202 Z202
theorem S202 : ConS Tryz.prog 202 C202 := B202.call rfl
/-! impl.copyHome: function 161 -/
noncomputable def f_impl_copyHome (x0 : List Int) (x1 : Int) (x2 : List Bool) (x3 : Bool) (x4 : Int) (x5 : Bool) (x6 : Int) (x7 : List (Int × Bool)) : Option (List Int × Int × List Bool × Bool × Int × Bool × Int × (List (Int × Bool))) :=
  (f_slices_Clone_int_int x0).bind fun y277 =>
  (f_slices_Clone_bool_bool x2).bind fun y278 =>
  (f_slices_Clone_impl_Wait_impl_Wait x7).bind fun y279 =>
  some (y277, x1, y278, x3, x4, x5, x6, y279)
noncomputable def C161 : Con := ⟨[(.B, true, [(.sl R0), (.int .i64), (.sl R2), .bool, (.int .i64), .bool, (.int .i64), (.sl R3)])], [(true, [(.sl R0), (.int .i64), (.sl R2), .bool, (.int .i64), .bool, (.int .i64), (.sl R3)])], [(.sl R0), (.int .i64), (.sl R2), .bool, (.int .i64), .bool, (.int .i64), (.sl R3)], [(.sl R0), (.int .i64), (.sl R2), .bool, (.int .i64), .bool, (.int .i64), (.sl R3)], fun (p : List Int × Int × List Bool × Bool × Int × Bool × Int × (List (Int × Bool))) => f_impl_copyHome p.1 p.2.1 p.2.2.1 p.2.2.2.1 p.2.2.2.2.1 p.2.2.2.2.2.1 p.2.2.2.2.2.2.1 p.2.2.2.2.2.2.2⟩
noncomputable abbrev K161 : Cons := [(146, C146), (201, C201), (202, C202)]
noncomputable abbrev L161 : List (Nat × Loops) := []
abbrev Q161 : List (Nat × List (Int × Nat) × Nat) := []
noncomputable abbrev X161 : Nat → Ctx := ctxOf tb K161 L161 Q161
theorem E161 : ∀ x, funRun fs X161 6 161 C161 x = C161.fn x := fun x => by kernel_rfl
theorem B161 : ConB Tryz.prog 161 C161 := ConB.make FS MIX TY (cons := K161) (L := L161) (ptrs := Q161) ⟨S146, S201, S202, trivial⟩ trivial trivial rfl rfl E161
theorem S161 : ConS Tryz.prog 161 C161 := B161.call rfl
/-! impl.copyMsg: function 163 -/
noncomputable def f_impl_copyMsg (x0 : Int) (x1 : Int) (x2 : Bool) (x3 : List Int) : Option (Int × Int × Bool × List Int) :=
  (f_slices_Clone_int_int x3).bind fun y280 =>
  some (x0, x1, x2, y280)
noncomputable def C163 : Con := ⟨[(.B, true, [(.int .i64), (.int .i64), .bool, (.sl R0)])], [(true, [(.int .i64), (.int .i64), .bool, (.sl R0)])], [(.int .i64), (.int .i64), .bool, (.sl R0)], [(.int .i64), (.int .i64), .bool, (.sl R0)], fun (p : Int × Int × Bool × List Int) => f_impl_copyMsg p.1 p.2.1 p.2.2.1 p.2.2.2⟩
noncomputable abbrev K163 : Cons := [(146, C146)]
noncomputable abbrev L163 : List (Nat × Loops) := []
abbrev Q163 : List (Nat × List (Int × Nat) × Nat) := []
noncomputable abbrev X163 : Nat → Ctx := ctxOf tb K163 L163 Q163
theorem E163 : ∀ x, funRun fs X163 6 163 C163 x = C163.fn x := fun x => by kernel_rfl
theorem B163 : ConB Tryz.prog 163 C163 := ConB.make FS MIX TY (cons := K163) (L := L163) (ptrs := Q163) ⟨S146, trivial⟩ trivial trivial rfl rfl E163
theorem S163 : ConS Tryz.prog 163 C163 := B163.call rfl
/-! impl.copySender: function 162 -/
noncomputable def f_impl_copySender.l0 : Nat → (List (Int × Int × Bool × List Int)) → Int → Int → Int → Int → (List (Int × Int × Bool × List Int)) → (List (Int × Int × Bool × List Int)) → Option (Int × Int × (List (Int × Int × Bool × List Int)) × (List (Int × Int × Bool × List Int)))
  | 0, _, _, _, _, _, _, _ => none
  | n + 1, p281, p282, p283, p284, p285, p286, p287 =>
    bif (decide (p283 < p282)) then
      bif ((decide ((0 : Int) ≤ p283)) && (decide (p283 < (p281.length : Int)))) then
      (f_impl_copyMsg ((p281.getD p283.toNat (0, 0, false, [])).1) ((p281.getD p283.toNat (0, 0, false, [])).2.1) ((p281.getD p283.toNat (0, 0, false, [])).2.2.1) ((p281.getD p283.toNat (0, 0, false, [])).2.2.2)).bind fun y288 =>
      bif (Nat.blt (p287.length + ([(y288.1, y288.2.1, y288.2.2.1, y288.2.2.2)] : List (Int × Int × Bool × List Int)).length) 2932031007402) then
      (some ((p287 ++ ([(y288.1, y288.2.1, y288.2.2.1, y288.2.2.2)] : List (Int × Int × Bool × List Int))) : List (Int × Int × Bool × List Int))).bind fun z289 =>
      f_impl_copySender.l0 n p281 p282 (IntKind.wrap .i64 (p283 + (1 : Int))) p284 p285 p286 z289
      else none
      else none
    else
      some (p284, p285, p286, p287)
noncomputable def f_impl_copySender (x0 : Int) (x1 : List (Int × Int × Bool × List Int)) : Option (Int × (List (Int × Int × Bool × List Int))) :=
  (f_impl_copySender.l0 N x1 (x1.length : Int) 0 0 x0 ([] : List (Int × Int × Bool × List Int)) ([] : List (Int × Int × Bool × List Int))).bind fun r290 =>
  some (r290.2.1, r290.2.2.2)
noncomputable def C162 : Con := ⟨[(.B, true, [(.int .i64), (.sl R5)])], [(true, [(.int .i64), (.sl R5)])], [(.int .i64), (.sl R5)], [(.int .i64), (.sl R5)], fun (p : Int × (List (Int × Int × Bool × List Int))) => f_impl_copySender p.1 p.2⟩
noncomputable def f_impl_copySender.l0.c : LoopCon := ⟨1000, 6, [2, 3, 10, 11, 12], ⟨[(2, .ptr 1000 0), (3, .ptr 1001 0), (10, .bor none R5 []), (11, .int .i64 0), (12, .int .i64 0)], [(1000, .box [.int .i64 0, .ref 1002 [] none]), (1001, .box [.int .i64 0, .ref 1003 [] none]), (1002, .row R5 []), (1003, .row R5 [])], 1004⟩, [(.sl R5), (.int .i64), (.int .i64), (.int .i64), (.int .i64), (.sl R5), (.sl R5)], [⟨.exit 0, [2, 3], ⟨[(2, .ptr 1000 0), (3, .ptr 1001 0)], [(1000, .box [.int .i64 0, .ref 1002 [] none]), (1001, .box [.int .i64 0, .ref 1003 [] none]), (1002, .row R5 []), (1003, .row R5 [])], 1004⟩, [(.int .i64), (.int .i64), (.sl R5), (.sl R5)]⟩], fun (p : (List (Int × Int × Bool × List Int)) × Int × Int × Int × Int × (List (Int × Int × Bool × List Int)) × (List (Int × Int × Bool × List Int))) => f_impl_copySender.l0 N p.1 p.2.1 p.2.2.1 p.2.2.2.1 p.2.2.2.2.1 p.2.2.2.2.2.1 p.2.2.2.2.2.2⟩
noncomputable abbrev K162 : Cons := [(163, C163)]
noncomputable abbrev L162 : List (Nat × Loops) := [(162, [(3, f_impl_copySender.l0.c)])]
abbrev Q162 : List (Nat × List (Int × Nat) × Nat) := []
noncomputable abbrev X162 : Nat → Ctx := ctxOf tb K162 L162 Q162
theorem f_impl_copySender.l0.ok : ∀ n p, (fun (p : (List (Int × Int × Bool × List Int)) × Int × Int × Int × Int × (List (Int × Int × Bool × List Int)) × (List (Int × Int × Bool × List Int))) => f_impl_copySender.l0 n p.1 p.2.1 p.2.2.1 p.2.2.2.1 p.2.2.2.2.1 p.2.2.2.2.2.1 p.2.2.2.2.2.2) p = iterD (roundOf fs X162 6 162 3 false f_impl_copySender.l0.c) n p :=
  iter_of (l := fun n => fun (p : (List (Int × Int × Bool × List Int)) × Int × Int × Int × Int × (List (Int × Int × Bool × List Int)) × (List (Int × Int × Bool × List Int))) => f_impl_copySender.l0 n p.1 p.2.1 p.2.2.1 p.2.2.2.1 p.2.2.2.2.1 p.2.2.2.2.2.1 p.2.2.2.2.2.2) (fun _ => rfl) (fun n p => by kernel_rfl)
theorem E162 : ∀ x, funRun fs X162 6 162 C162 x = C162.fn x := fun x => by kernel_rfl
theorem B162 : ConB Tryz.prog 162 C162 := ConB.make FS MIX TY (cons := K162) (L := L162) (ptrs := Q162) ⟨S163, trivial⟩ trivial ⟨⟨⟨N, fun p => f_impl_copySender.l0.ok N p⟩, trivial⟩, trivial⟩ rfl rfl E162
theorem S162 : ConS Tryz.prog 162 C162 := B162.call rfl
/-! impl.copyNode: function 84 -/
noncomputable def f_impl_copyNode.l2 : Nat → (List (Int × (List (Int × Int × Bool × List Int)))) → Int → Int → Int → Int → (List (Int × List Int × Bool)) → (List (List Int × Int × List Bool × Bool × Int × Bool × Int × (List (Int × Bool)))) → (List (Int × (List (Int × Int × Bool × List Int)))) → (List Int) → (List (Int × List Int × Bool)) → (List (List Int × Int × List Bool × Bool × Int × Bool × Int × (List (Int × Bool)))) → (List (Int × (List (Int × Int × Bool × List Int)))) → (List Int) → Option (Int × Int × (List (Int × List Int × Bool)) × (List (List Int × Int × List Bool × Bool × Int × Bool × Int × (List (Int × Bool)))) × (List (Int × (List (Int × Int × Bool × List Int)))) × List Int × (List (Int × List Int × Bool)) × (List (List Int × Int × List Bool × Bool × Int × Bool × Int × (List (Int × Bool)))) × (List (Int × (List (Int × Int × Bool × List Int)))) × List Int)
  | 0, _, _, _, _, _, _, _, _, _, _, _, _, _ => none
  | n + 1, p334, p335, p336, p337, p338, p339, p340, p341, p342, p343, p344, p345, p346 =>
    bif (decide (p336 < p335)) then
      bif ((decide ((0 : Int) ≤ p336)) && (decide (p336 < (p334.length : Int)))) then
      (f_impl_copySender ((p334.getD p336.toNat (0, [])).1) ((p334.getD p336.toNat (0, [])).2)).bind fun y347 =>
      bif (Nat.blt (p345.length + ([(y347.1, y347.2)] : List (Int × (List (Int × Int × Bool × List Int)))).length) 4398046511104) then
      (some ((p345 ++ ([(y347.1, y347.2)] : List (Int × (List (Int × Int × Bool × List Int))))) : List (Int × (List (Int × Int × Bool × List Int))))).bind fun z348 =>
      f_impl_copyNode.l2 n p334 p335 (IntKind.wrap .i64 (p336 + (1 : Int))) p337 p338 p339 p340 p341 p342 p343 p344 z348 p346
      else none
      else none
    else
      some (p337, p338, p339, p340, p341, p342, p343, p344, p345, p346)
noncomputable def f_impl_copyNode.l1 : Nat → (List (List Int × Int × List Bool × Bool × Int × Bool × Int × (List (Int × Bool)))) → Int → Int → Int → (List (Int × List Int × Bool)) → (List (List Int × Int × List Bool × Bool × Int × Bool × Int × (List (Int × Bool)))) → (List (Int × (List (Int × Int × Bool × List Int)))) → (List Int) → Int → Int → (List (Int × List Int × Bool)) → (List (List Int × Int × List Bool × Bool × Int × Bool × Int × (List (Int × Bool)))) → (List (Int × (List (Int × Int × Bool × List Int)))) → (List Int) → (List (Int × List Int × Bool)) → (List (List Int × Int × List Bool × Bool × Int × Bool × Int × (List (Int × Bool)))) → (List (Int × (List (Int × Int × Bool × List Int)))) → (List Int) → Option (Int × (List (Int × List Int × Bool)) × (List (List Int × Int × List Bool × Bool × Int × Bool × Int × (List (Int × Bool)))) × (List (Int × (List (Int × Int × Bool × List Int)))) × List Int × Int × Int × (List (Int × List Int × Bool)) × (List (List Int × Int × List Bool × Bool × Int × Bool × Int × (List (Int × Bool)))) × (List (Int × (List (Int × Int × Bool × List Int)))) × List Int × (List (Int × List Int × Bool)) × (List (List Int × Int × List Bool × Bool × Int × Bool × Int × (List (Int × Bool)))) × (List (Int × (List (Int × Int × Bool × List Int)))) × List Int)
  | 0, _, _, _, _, _, _, _, _, _, _, _, _, _, _, _, _, _, _ => none
  | n + 1, p313, p314, p315, p316, p317, p318, p319, p320, p321, p322, p323, p324, p325, p326, p327, p328, p329, p330 =>
    bif (decide (p315 < p314)) then
      bif ((decide ((0 : Int) ≤ p315)) && (decide (p315 < (p313.length : Int)))) then
      (f_impl_copyHome ((p313.getD p315.toNat ([], 0, [], false, 0, false, 0, [])).1) ((p313.getD p315.toNat ([], 0, [], false, 0, false, 0, [])).2.1) ((p313.getD p315.toNat ([], 0, [], false, 0, false, 0, [])).2.2.1) ((p313.getD p315.toNat ([], 0, [], false, 0, false, 0, [])).2.2.2.1) ((p313.getD p315.toNat ([], 0, [], false, 0, false, 0, [])).2.2.2.2.1) ((p313.getD p315.toNat ([], 0, [], false, 0, false, 0, [])).2.2.2.2.2.1) ((p313.getD p315.toNat ([], 0, [], false, 0, false, 0, [])).2.2.2.2.2.2.1) ((p313.getD p315.toNat ([], 0, [], false, 0, false, 0, [])).2.2.2.2.2.2.2)).bind fun y331 =>
      bif (Nat.blt (p328.length + ([(y331.1, y331.2.1, y331.2.2.1, y331.2.2.2.1, y331.2.2.2.2.1, y331.2.2.2.2.2.1, y331.2.2.2.2.2.2.1, y331.2.2.2.2.2.2.2)] : List (List Int × Int × List Bool × Bool × Int × Bool × Int × (List (Int × Bool)))).length) 1256584717458) then
      (some ((p328 ++ ([(y331.1, y331.2.1, y331.2.2.1, y331.2.2.2.1, y331.2.2.2.2.1, y331.2.2.2.2.2.1, y331.2.2.2.2.2.2.1, y331.2.2.2.2.2.2.2)] : List (List Int × Int × List Bool × Bool × Int × Bool × Int × (List (Int × Bool))))) : List (List Int × Int × List Bool × Bool × Int × Bool × Int × (List (Int × Bool))))).bind fun z332 =>
      f_impl_copyNode.l1 n p313 p314 (IntKind.wrap .i64 (p315 + (1 : Int))) p316 p317 p318 p319 p320 p321 p322 p323 p324 p325 p326 p327 z332 p329 p330
      else none
      else none
    else
      some (p316, p317, p318, p319, p320, p321, p322, p323, p324, p325, p326, p327, p328, p329, p330)
noncomputable def f_impl_copyNode.l0 : Nat → (List (Int × List Int × Bool)) → Int → Int → Int → (List (Int × List Int × Bool)) → (List (List Int × Int × List Bool × Bool × Int × Bool × Int × (List (Int × Bool)))) → (List (Int × (List (Int × Int × Bool × List Int)))) → (List Int) → Int → Int → (List (Int × List Int × Bool)) → (List (List Int × Int × List Bool × Bool × Int × Bool × Int × (List (Int × Bool)))) → (List (Int × (List (Int × Int × Bool × List Int)))) → (List Int) → (List (Int × List Int × Bool)) → (List (List Int × Int × List Bool × Bool × Int × Bool × Int × (List (Int × Bool)))) → (List (Int × (List (Int × Int × Bool × List Int)))) → (List Int) → Option (Int × (List (Int × List Int × Bool)) × (List (List Int × Int × List Bool × Bool × Int × Bool × Int × (List (Int × Bool)))) × (List (Int × (List (Int × Int × Bool × List Int)))) × List Int × Int × Int × (List (Int × List Int × Bool)) × (List (List Int × Int × List Bool × Bool × Int × Bool × Int × (List (Int × Bool)))) × (List (Int × (List (Int × Int × Bool × List Int)))) × List Int × (List (Int × List Int × Bool)) × (List (List Int × Int × List Bool × Bool × Int × Bool × Int × (List (Int × Bool)))) × (List (Int × (List (Int × Int × Bool × List Int)))) × List Int)
  | 0, _, _, _, _, _, _, _, _, _, _, _, _, _, _, _, _, _, _ => none
  | n + 1, p292, p293, p294, p295, p296, p297, p298, p299, p300, p301, p302, p303, p304, p305, p306, p307, p308, p309 =>
    bif (decide (p294 < p293)) then
      bif ((decide ((0 : Int) ≤ p294)) && (decide (p294 < (p292.length : Int)))) then
      (f_impl_copyFrame ((p292.getD p294.toNat (0, [], false)).1) ((p292.getD p294.toNat (0, [], false)).2.1) ((p292.getD p294.toNat (0, [], false)).2.2)).bind fun y310 =>
      bif (Nat.blt (p306.length + ([(y310.1, y310.2.1, y310.2.2)] : List (Int × List Int × Bool)).length) 3518437208883) then
      (some ((p306 ++ ([(y310.1, y310.2.1, y310.2.2)] : List (Int × List Int × Bool))) : List (Int × List Int × Bool))).bind fun z311 =>
      f_impl_copyNode.l0 n p292 p293 (IntKind.wrap .i64 (p294 + (1 : Int))) p295 p296 p297 p298 p299 p300 p301 p302 p303 p304 p305 z311 p307 p308 p309
      else none
      else none
    else
      some (p295, p296, p297, p298, p299, p300, p301, p302, p303, p304, p305, p306, p307, p308, p309)
noncomputable def f_impl_copyNode (x0 : Int) (x1 : List (Int × List Int × Bool)) (x2 : List (List Int × Int × List Bool × Bool × Int × Bool × Int × (List (Int × Bool)))) (x3 : List (Int × (List (Int × Int × Bool × List Int)))) (x4 : List Int) : Option (Int × (List (Int × List Int × Bool)) × (List (List Int × Int × List Bool × Bool × Int × Bool × Int × (List (Int × Bool)))) × (List (Int × (List (Int × Int × Bool × List Int)))) × List Int) :=
  (f_slices_Clone_impl_Receiver_impl_Receiver x4).bind fun y291 =>
  (f_impl_copyNode.l0 N x1 (x1.length : Int) 0 x0 x1 x2 x3 x4 0 x0 ([] : List (Int × List Int × Bool)) ([] : List (List Int × Int × List Bool × Bool × Int × Bool × Int × (List (Int × Bool)))) ([] : List (Int × (List (Int × Int × Bool × List Int)))) ([] : List Int) ([] : List (Int × List Int × Bool)) ([] : List (List Int × Int × List Bool × Bool × Int × Bool × Int × (List (Int × Bool)))) ([] : List (Int × (List (Int × Int × Bool × List Int)))) y291).bind fun r312 =>
  (f_impl_copyNode.l1 N r312.2.2.1 (r312.2.2.1.length : Int) 0 r312.1 r312.2.1 r312.2.2.1 r312.2.2.2.1 r312.2.2.2.2.1 r312.2.2.2.2.2.1 r312.2.2.2.2.2.2.1 r312.2.2.2.2.2.2.2.1 r312.2.2.2.2.2.2.2.2.1 r312.2.2.2.2.2.2.2.2.2.1 r312.2.2.2.2.2.2.2.2.2.2.1 r312.2.2.2.2.2.2.2.2.2.2.2.1 r312.2.2.2.2.2.2.2.2.2.2.2.2.1 r312.2.2.2.2.2.2.2.2.2.2.2.2.2.1 r312.2.2.2.2.2.2.2.2.2.2.2.2.2.2).bind fun r333 =>
  (f_impl_copyNode.l2 N r333.2.2.2.1 (r333.2.2.2.1.length : Int) 0 r333.2.2.2.2.2.1 r333.2.2.2.2.2.2.1 r333.2.2.2.2.2.2.2.1 r333.2.2.2.2.2.2.2.2.1 r333.2.2.2.2.2.2.2.2.2.1 r333.2.2.2.2.2.2.2.2.2.2.1 r333.2.2.2.2.2.2.2.2.2.2.2.1 r333.2.2.2.2.2.2.2.2.2.2.2.2.1 r333.2.2.2.2.2.2.2.2.2.2.2.2.2.1 r333.2.2.2.2.2.2.2.2.2.2.2.2.2.2).bind fun r349 =>
  some (r349.2.1, r349.2.2.2.2.2.2.1, r349.2.2.2.2.2.2.2.1, r349.2.2.2.2.2.2.2.2.1, r349.2.2.2.2.2.2.2.2.2)
noncomputable def C84 : Con := ⟨[(.B, true, [(.int .i64), (.sl R1), (.sl R4), (.sl R6), (.sl R0)])], [(true, [(.int .i64), (.sl R1), (.sl R4), (.sl R6), (.sl R0)])], [(.int .i64), (.sl R1), (.sl R4), (.sl R6), (.sl R0)], [(.int .i64), (.sl R1), (.sl R4), (.sl R6), (.sl R0)], fun (p : Int × (List (Int × List Int × Bool)) × (List (List Int × Int × List Bool × Bool × Int × Bool × Int × (List (Int × Bool)))) × (List (Int × (List (Int × Int × Bool × List Int)))) × List Int) => f_impl_copyNode p.1 p.2.1 p.2.2.1 p.2.2.2.1 p.2.2.2.2⟩
noncomputable def f_impl_copyNode.l0.c : LoopCon := ⟨1000, 6, [1, 2, 3, 17, 18, 19], ⟨[(1, .ptr 1000 0), (2, .ptr 1001 0), (3, .ptr 1002 0), (17, .bor none R1 []), (18, .int .i64 0), (19, .int .i64 0)], [(1000, .box [.int .i64 0, .bor none R1 [], .bor none R4 [], .bor none R6 [], .bor none R0 []]), (1001, .box [.int .i64 0, .ref 1003 [] none, .ref 1004 [] none, .ref 1005 [] none, .ref 1006 [] none]), (1002, .box [.int .i64 0, .ref 1007 [] none, .ref 1008 [] none, .ref 1009 [] none, .ref 1010 [] none]), (1003, .row R1 []), (1004, .row R4 []), (1005, .row R6 []), (1006, .row R0 []), (1007, .row R1 []), (1008, .row R4 []), (1009, .row R6 []), (1010, .row R0 [])], 1011⟩, [(.sl R1), (.int .i64), (.int .i64), (.int .i64), (.sl R1), (.sl R4), (.sl R6), (.sl R0), (.int .i64), (.int .i64), (.sl R1), (.sl R4), (.sl R6), (.sl R0), (.sl R1), (.sl R4), (.sl R6), (.sl R0)], [⟨.exit 0, [1, 2, 3], ⟨[(1, .ptr 1000 0), (2, .ptr 1001 0), (3, .ptr 1002 0)], [(1000, .box [.int .i64 0, .bor none R1 [], .bor none R4 [], .bor none R6 [], .bor none R0 []]), (1001, .box [.int .i64 0, .ref 1003 [] none, .ref 1004 [] none, .ref 1005 [] none, .ref 1006 [] none]), (1002, .box [.int .i64 0, .ref 1007 [] none, .ref 1008 [] none, .ref 1009 [] none, .ref 1010 [] none]), (1003, .row R1 []), (1004, .row R4 []), (1005, .row R6 []), (1006, .row R0 []), (1007, .row R1 []), (1008, .row R4 []), (1009, .row R6 []), (1010, .row R0 [])], 1011⟩, [(.int .i64), (.sl R1), (.sl R4), (.sl R6), (.sl R0), (.int .i64), (.int .i64), (.sl R1), (.sl R4), (.sl R6), (.sl R0), (.sl R1), (.sl R4), (.sl R6), (.sl R0)]⟩], fun (p : (List (Int × List Int × Bool)) × Int × Int × Int × (List (Int × List Int × Bool)) × (List (List Int × Int × List Bool × Bool × Int × Bool × Int × (List (Int × Bool)))) × (List (Int × (List (Int × Int × Bool × List Int)))) × List Int × Int × Int × (List (Int × List Int × Bool)) × (List (List Int × Int × List Bool × Bool × Int × Bool × Int × (List (Int × Bool)))) × (List (Int × (List (Int × Int × Bool × List Int)))) × List Int × (List (Int × List Int × Bool)) × (List (List Int × Int × List Bool × Bool × Int × Bool × Int × (List (Int × Bool)))) × (List (Int × (List (Int × Int × Bool × List Int)))) × List Int) => f_impl_copyNode.l0 N p.1 p.2.1 p.2.2.1 p.2.2.2.1 p.2.2.2.2.1 p.2.2.2.2.2.1 p.2.2.2.2.2.2.1 p.2.2.2.2.2.2.2.1 p.2.2.2.2.2.2.2.2.1 p.2.2.2.2.2.2.2.2.2.1 p.2.2.2.2.2.2.2.2.2.2.1 p.2.2.2.2.2.2.2.2.2.2.2.1 p.2.2.2.2.2.2.2.2.2.2.2.2.1 p.2.2.2.2.2.2.2.2.2.2.2.2.2.1 p.2.2.2.2.2.2.2.2.2.2.2.2.2.2.1 p.2.2.2.2.2.2.2.2.2.2.2.2.2.2.2.1 p.2.2.2.2.2.2.2.2.2.2.2.2.2.2.2.2.1 p.2.2.2.2.2.2.2.2.2.2.2.2.2.2.2.2.2⟩
noncomputable def f_impl_copyNode.l1.c : LoopCon := ⟨1000, 6, [1, 2, 3, 32, 33, 34], ⟨[(1, .ptr 1000 0), (2, .ptr 1001 0), (3, .ptr 1002 0), (32, .bor none R4 []), (33, .int .i64 0), (34, .int .i64 0)], [(1000, .box [.int .i64 0, .bor none R1 [], .bor none R4 [], .bor none R6 [], .bor none R0 []]), (1001, .box [.int .i64 0, .ref 1003 [] none, .ref 1004 [] none, .ref 1005 [] none, .ref 1006 [] none]), (1002, .box [.int .i64 0, .ref 1007 [] none, .ref 1008 [] none, .ref 1009 [] none, .ref 1010 [] none]), (1003, .row R1 []), (1004, .row R4 []), (1005, .row R6 []), (1006, .row R0 []), (1007, .row R1 []), (1008, .row R4 []), (1009, .row R6 []), (1010, .row R0 [])], 1011⟩, [(.sl R4), (.int .i64), (.int .i64), (.int .i64), (.sl R1), (.sl R4), (.sl R6), (.sl R0), (.int .i64), (.int .i64), (.sl R1), (.sl R4), (.sl R6), (.sl R0), (.sl R1), (.sl R4), (.sl R6), (.sl R0)], [⟨.exit 2, [1, 2, 3], ⟨[(1, .ptr 1000 0), (2, .ptr 1001 0), (3, .ptr 1002 0)], [(1000, .box [.int .i64 0, .bor none R1 [], .bor none R4 [], .bor none R6 [], .bor none R0 []]), (1001, .box [.int .i64 0, .ref 1003 [] none, .ref 1004 [] none, .ref 1005 [] none, .ref 1006 [] none]), (1002, .box [.int .i64 0, .ref 1007 [] none, .ref 1008 [] none, .ref 1009 [] none, .ref 1010 [] none]), (1003, .row R1 []), (1004, .row R4 []), (1005, .row R6 []), (1006, .row R0 []), (1007, .row R1 []), (1008, .row R4 []), (1009, .row R6 []), (1010, .row R0 [])], 1011⟩, [(.int .i64), (.sl R1), (.sl R4), (.sl R6), (.sl R0), (.int .i64), (.int .i64), (.sl R1), (.sl R4), (.sl R6), (.sl R0), (.sl R1), (.sl R4), (.sl R6), (.sl R0)]⟩], fun (p : (List (List Int × Int × List Bool × Bool × Int × Bool × Int × (List (Int × Bool)))) × Int × Int × Int × (List (Int × List Int × Bool)) × (List (List Int × Int × List Bool × Bool × Int × Bool × Int × (List (Int × Bool)))) × (List (Int × (List (Int × Int × Bool × List Int)))) × List Int × Int × Int × (List (Int × List Int × Bool)) × (List (List Int × Int × List Bool × Bool × Int × Bool × Int × (List (Int × Bool)))) × (List (Int × (List (Int × Int × Bool × List Int)))) × List Int × (List (Int × List Int × Bool)) × (List (List Int × Int × List Bool × Bool × Int × Bool × Int × (List (Int × Bool)))) × (List (Int × (List (Int × Int × Bool × List Int)))) × List Int) => f_impl_copyNode.l1 N p.1 p.2.1 p.2.2.1 p.2.2.2.1 p.2.2.2.2.1 p.2.2.2.2.2.1 p.2.2.2.2.2.2.1 p.2.2.2.2.2.2.2.1 p.2.2.2.2.2.2.2.2.1 p.2.2.2.2.2.2.2.2.2.1 p.2.2.2.2.2.2.2.2.2.2.1 p.2.2.2.2.2.2.2.2.2.2.2.1 p.2.2.2.2.2.2.2.2.2.2.2.2.1 p.2.2.2.2.2.2.2.2.2.2.2.2.2.1 p.2.2.2.2.2.2.2.2.2.2.2.2.2.2.1 p.2.2.2.2.2.2.2.2.2.2.2.2.2.2.2.1 p.2.2.2.2.2.2.2.2.2.2.2.2.2.2.2.2.1 p.2.2.2.2.2.2.2.2.2.2.2.2.2.2.2.2.2⟩
noncomputable def f_impl_copyNode.l2.c : LoopCon := ⟨1000, 6, [2, 3, 47, 48, 49], ⟨[(2, .ptr 1000 0), (3, .ptr 1001 0), (47, .bor none R6 []), (48, .int .i64 0), (49, .int .i64 0)], [(1000, .box [.int .i64 0, .ref 1002 [] none, .ref 1003 [] none, .ref 1004 [] none, .ref 1005 [] none]), (1001, .box [.int .i64 0, .ref 1006 [] none, .ref 1007 [] none, .ref 1008 [] none, .ref 1009 [] none]), (1002, .row R1 []), (1003, .row R4 []), (1004, .row R6 []), (1005, .row R0 []), (1006, .row R1 []), (1007, .row R4 []), (1008, .row R6 []), (1009, .row R0 [])], 1010⟩, [(.sl R6), (.int .i64), (.int .i64), (.int .i64), (.int .i64), (.sl R1), (.sl R4), (.sl R6), (.sl R0), (.sl R1), (.sl R4), (.sl R6), (.sl R0)], [⟨.exit 4, [2, 3], ⟨[(2, .ptr 1000 0), (3, .ptr 1001 0)], [(1000, .box [.int .i64 0, .ref 1002 [] none, .ref 1003 [] none, .ref 1004 [] none, .ref 1005 [] none]), (1001, .box [.int .i64 0, .ref 1006 [] none, .ref 1007 [] none, .ref 1008 [] none, .ref 1009 [] none]), (1002, .row R1 []), (1003, .row R4 []), (1004, .row R6 []), (1005, .row R0 []), (1006, .row R1 []), (1007, .row R4 []), (1008, .row R6 []), (1009, .row R0 [])], 1010⟩, [(.int .i64), (.int .i64), (.sl R1), (.sl R4), (.sl R6), (.sl R0), (.sl R1), (.sl R4), (.sl R6), (.sl R0)]⟩], fun (p : (List (Int × (List (Int × Int × Bool × List Int)))) × Int × Int × Int × Int × (List (Int × List Int × Bool)) × (List (List Int × Int × List Bool × Bool × Int × Bool × Int × (List (Int × Bool)))) × (List (Int × (List (Int × Int × Bool × List Int)))) × List Int × (List (Int × List Int × Bool)) × (List (List Int × Int × List Bool × Bool × Int × Bool × Int × (List (Int × Bool)))) × (List (Int × (List (Int × Int × Bool × List Int)))) × List Int) => f_impl_copyNode.l2 N p.1 p.2.1 p.2.2.1 p.2.2.2.1 p.2.2.2.2.1 p.2.2.2.2.2.1 p.2.2.2.2.2.2.1 p.2.2.2.2.2.2.2.1 p.2.2.2.2.2.2.2.2.1 p.2.2.2.2.2.2.2.2.2.1 p.2.2.2.2.2.2.2.2.2.2.1 p.2.2.2.2.2.2.2.2.2.2.2.1 p.2.2.2.2.2.2.2.2.2.2.2.2⟩
noncomputable abbrev K84 : Cons := [(159, C159), (160, C160), (161, C161), (162, C162)]
noncomputable abbrev L84 : List (Nat × Loops) := [(84, [(3, f_impl_copyNode.l0.c), (8, f_impl_copyNode.l1.c), (13, f_impl_copyNode.l2.c)])]
abbrev Q84 : List (Nat × List (Int × Nat) × Nat) := []
noncomputable abbrev X84 : Nat → Ctx := ctxOf tb K84 L84 Q84
theorem f_impl_copyNode.l0.ok : ∀ n p, (fun (p : (List (Int × List Int × Bool)) × Int × Int × Int × (List (Int × List Int × Bool)) × (List (List Int × Int × List Bool × Bool × Int × Bool × Int × (List (Int × Bool)))) × (List (Int × (List (Int × Int × Bool × List Int)))) × List Int × Int × Int × (List (Int × List Int × Bool)) × (List (List Int × Int × List Bool × Bool × Int × Bool × Int × (List (Int × Bool)))) × (List (Int × (List (Int × Int × Bool × List Int)))) × List Int × (List (Int × List Int × Bool)) × (List (List Int × Int × List Bool × Bool × Int × Bool × Int × (List (Int × Bool)))) × (List (Int × (List (Int × Int × Bool × List Int)))) × List Int) => f_impl_copyNode.l0 n p.1 p.2.1 p.2.2.1 p.2.2.2.1 p.2.2.2.2.1 p.2.2.2.2.2.1 p.2.2.2.2.2.2.1 p.2.2.2.2.2.2.2.1 p.2.2.2.2.2.2.2.2.1 p.2.2.2.2.2.2.2.2.2.1 p.2.2.2.2.2.2.2.2.2.2.1 p.2.2.2.2.2.2.2.2.2.2.2.1 p.2.2.2.2.2.2.2.2.2.2.2.2.1 p.2.2.2.2.2.2.2.2.2.2.2.2.2.1 p.2.2.2.2.2.2.2.2.2.2.2.2.2.2.1 p.2.2.2.2.2.2.2.2.2.2.2.2.2.2.2.1 p.2.2.2.2.2.2.2.2.2.2.2.2.2.2.2.2.1 p.2.2.2.2.2.2.2.2.2.2.2.2.2.2.2.2.2) p = iterD (roundOf fs X84 6 84 3 false f_impl_copyNode.l0.c) n p :=
  iter_of (l := fun n => fun (p : (List (Int × List Int × Bool)) × Int × Int × Int × (List (Int × List Int × Bool)) × (List (List Int × Int × List Bool × Bool × Int × Bool × Int × (List (Int × Bool)))) × (List (Int × (List (Int × Int × Bool × List Int)))) × List Int × Int × Int × (List (Int × List Int × Bool)) × (List (List Int × Int × List Bool × Bool × Int × Bool × Int × (List (Int × Bool)))) × (List (Int × (List (Int × Int × Bool × List Int)))) × List Int × (List (Int × List Int × Bool)) × (List (List Int × Int × List Bool × Bool × Int × Bool × Int × (List (Int × Bool)))) × (List (Int × (List (Int × Int × Bool × List Int)))) × List Int) => f_impl_copyNode.l0 n p.1 p.2.1 p.2.2.1 p.2.2.2.1 p.2.2.2.2.1 p.2.2.2.2.2.1 p.2.2.2.2.2.2.1 p.2.2.2.2.2.2.2.1 p.2.2.2.2.2.2.2.2.1 p.2.2.2.2.2.2.2.2.2.1 p.2.2.2.2.2.2.2.2.2.2.1 p.2.2.2.2.2.2.2.2.2.2.2.1 p.2.2.2.2.2.2.2.2.2.2.2.2.1 p.2.2.2.2.2.2.2.2.2.2.2.2.2.1 p.2.2.2.2.2.2.2.2.2.2.2.2.2.2.1 p.2.2.2.2.2.2.2.2.2.2.2.2.2.2.2.1 p.2.2.2.2.2.2.2.2.2.2.2.2.2.2.2.2.1 p.2.2.2.2.2.2.2.2.2.2.2.2.2.2.2.2.2) (fun _ => rfl) (fun n p => by kernel_rfl)
theorem f_impl_copyNode.l1.ok : ∀ n p, (fun (p : (List (List Int × Int × List Bool × Bool × Int × Bool × Int × (List (Int × Bool)))) × Int × Int × Int × (List (Int × List Int × Bool)) × (List (List Int × Int × List Bool × Bool × Int × Bool × Int × (List (Int × Bool)))) × (List (Int × (List (Int × Int × Bool × List Int)))) × List Int × Int × Int × (List (Int × List Int × Bool)) × (List (List Int × Int × List Bool × Bool × Int × Bool × Int × (List (Int × Bool)))) × (List (Int × (List (Int × Int × Bool × List Int)))) × List Int × (List (Int × List Int × Bool)) × (List (List Int × Int × List Bool × Bool × Int × Bool × Int × (List (Int × Bool)))) × (List (Int × (List (Int × Int × Bool × List Int)))) × List Int) => f_impl_copyNode.l1 n p.1 p.2.1 p.2.2.1 p.2.2.2.1 p.2.2.2.2.1 p.2.2.2.2.2.1 p.2.2.2.2.2.2.1 p.2.2.2.2.2.2.2.1 p.2.2.2.2.2.2.2.2.1 p.2.2.2.2.2.2.2.2.2.1 p.2.2.2.2.2.2.2.2.2.2.1 p.2.2.2.2.2.2.2.2.2.2.2.1 p.2.2.2.2.2.2.2.2.2.2.2.2.1 p.2.2.2.2.2.2.2.2.2.2.2.2.2.1 p.2.2.2.2.2.2.2.2.2.2.2.2.2.2.1 p.2.2.2.2.2.2.2.2.2.2.2.2.2.2.2.1 p.2.2.2.2.2.2.2.2.2.2.2.2.2.2.2.2.1 p.2.2.2.2.2.2.2.2.2.2.2.2.2.2.2.2.2) p = iterD (roundOf fs X84 6 84 8 false f_impl_copyNode.l1.c) n p :=
  iter_of (l := fun n => fun (p : (List (List Int × Int × List Bool × Bool × Int × Bool × Int × (List (Int × Bool)))) × Int × Int × Int × (List (Int × List Int × Bool)) × (List (List Int × Int × List Bool × Bool × Int × Bool × Int × (List (Int × Bool)))) × (List (Int × (List (Int × Int × Bool × List Int)))) × List Int × Int × Int × (List (Int × List Int × Bool)) × (List (List Int × Int × List Bool × Bool × Int × Bool × Int × (List (Int × Bool)))) × (List (Int × (List (Int × Int × Bool × List Int)))) × List Int × (List (Int × List Int × Bool)) × (List (List Int × Int × List Bool × Bool × Int × Bool × Int × (List (Int × Bool)))) × (List (Int × (List (Int × Int × Bool × List Int)))) × List Int) => f_impl_copyNode.l1 n p.1 p.2.1 p.2.2.1 p.2.2.2.1 p.2.2.2.2.1 p.2.2.2.2.2.1 p.2.2.2.2.2.2.1 p.2.2.2.2.2.2.2.1 p.2.2.2.2.2.2.2.2.1 p.2.2.2.2.2.2.2.2.2.1 p.2.2.2.2.2.2.2.2.2.2.1 p.2.2.2.2.2.2.2.2.2.2.2.1 p.2.2.2.2.2.2.2.2.2.2.2.2.1 p.2.2.2.2.2.2.2.2.2.2.2.2.2.1 p.2.2.2.2.2.2.2.2.2.2.2.2.2.2.1 p.2.2.2.2.2.2.2.2.2.2.2.2.2.2.2.1 p.2.2.2.2.2.2.2.2.2.2.2.2.2.2.2.2.1 p.2.2.2.2.2.2.2.2.2.2.2.2.2.2.2.2.2) (fun _ => rfl) (fun n p => by kernel_rfl)
theorem f_impl_copyNode.l2.ok : ∀ n p, (fun (p : (List (Int × (List (Int × Int × Bool × List Int)))) × Int × Int × Int × Int × (List (Int × List Int × Bool)) × (List (List Int × Int × List Bool × Bool × Int × Bool × Int × (List (Int × Bool)))) × (List (Int × (List (Int × Int × Bool × List Int)))) × List Int × (List (Int × List Int × Bool)) × (List (List Int × Int × List Bool × Bool × Int × Bool × Int × (List (Int × Bool)))) × (List (Int × (List (Int × Int × Bool × List Int)))) × List Int) => f_impl_copyNode.l2 n p.1 p.2.1 p.2.2.1 p.2.2.2.1 p.2.2.2.2.1 p.2.2.2.2.2.1 p.2.2.2.2.2.2.1 p.2.2.2.2.2.2.2.1 p.2.2.2.2.2.2.2.2.1 p.2.2.2.2.2.2.2.2.2.1 p.2.2.2.2.2.2.2.2.2.2.1 p.2.2.2.2.2.2.2.2.2.2.2.1 p.2.2.2.2.2.2.2.2.2.2.2.2) p = iterD (roundOf fs X84 6 84 13 false f_impl_copyNode.l2.c) n p :=
  iter_of (l := fun n => fun (p : (List (Int × (List (Int × Int × Bool × List Int)))) × Int × Int × Int × Int × (List (Int × List Int × Bool)) × (List (List Int × Int × List Bool × Bool × Int × Bool × Int × (List (Int × Bool)))) × (List (Int × (List (Int × Int × Bool × List Int)))) × List Int × (List (Int × List Int × Bool)) × (List (List Int × Int × List Bool × Bool × Int × Bool × Int × (List (Int × Bool)))) × (List (Int × (List (Int × Int × Bool × List Int)))) × List Int) => f_impl_copyNode.l2 n p.1 p.2.1 p.2.2.1 p.2.2.2.1 p.2.2.2.2.1 p.2.2.2.2.2.1 p.2.2.2.2.2.2.1 p.2.2.2.2.2.2.2.1 p.2.2.2.2.2.2.2.2.1 p.2.2.2.2.2.2.2.2.2.1 p.2.2.2.2.2.2.2.2.2.2.1 p.2.2.2.2.2.2.2.2.2.2.2.1 p.2.2.2.2.2.2.2.2.2.2.2.2) (fun _ => rfl) (fun n p => by kernel_rfl)
theorem E84 : ∀ x, funRun fs X84 6 84 C84 x = C84.fn x := fun x => by kernel_rfl
theorem B84 : ConB Tryz.prog 84 C84 := ConB.make FS MIX TY (cons := K84) (L := L84) (ptrs := Q84) ⟨S159, S160, S161, S162, trivial⟩ trivial ⟨⟨⟨N, fun p => f_impl_copyNode.l0.ok N p⟩, ⟨N, fun p => f_impl_copyNode.l1.ok N p⟩, ⟨N, fun p => f_impl_copyNode.l2.ok N p⟩, trivial⟩, trivial⟩ rfl rfl E84
theorem S84 : ConS Tryz.prog 84 C84 := B84.call rfl
/-! impl.from: function 140 -/
noncomputable def f_impl_from (x0 : Int) (x1 : Int) (x2 : Int) : Option (Bool) :=
  bif (decide (x1 ≤ x0)) then
    some (decide (x0 ≤ x2))
  else
    some false
noncomputable def C140 : Con := ⟨[(.B, false, [(.int .i64)]), (.B, false, [(.int .i64)]), (.B, false, [(.int .i64)])], [(false, [.bool])], [(.int .i64), (.int .i64), (.int .i64)], [.bool], fun (p : Int × Int × Int) => f_impl_from p.1 p.2.1 p.2.2⟩
noncomputable abbrev K140 : Cons := []
noncomputable abbrev L140 : List (Nat × Loops) := []
abbrev Q140 : List (Nat × List (Int × Nat) × Nat) := []
noncomputable abbrev X140 : Nat → Ctx := ctxOf tb K140 L140 Q140
theorem E140 : ∀ x, funRun fs X140 6 140 C140 x = C140.fn x := fun x => by kernel_rfl
theorem B140 : ConB Tryz.prog 140 C140 := ConB.make FS MIX TY (cons := K140) (L := L140) (ptrs := Q140) trivial trivial trivial rfl rfl E140
theorem S140 : ConS Tryz.prog 140 C140 := B140.call rfl
/-! impl.isOf: function 100 -/
noncomputable def f_impl_isOf (x0 : Int) (x1 : Int) : Option (Bool) :=
  (f_impl_from x1 1 4).bind fun y350 =>
  bif y350 then
    (f_impl_from x0 0 (IntKind.wrap .i64 (x1 - (1 : Int)))).bind fun y351 =>
    some y351
  else
    some false
noncomputable def C100 : Con := ⟨[(.B, false, [(.int .i64)]), (.B, false, [(.int .i64)])], [(false, [.bool])], [(.int .i64), (.int .i64)], [.bool], fun (p : Int × Int) => f_impl_isOf p.1 p.2⟩
noncomputable abbrev K100 : Cons := [(140, C140)]
noncomputable abbrev L100 : List (Nat × Loops) := []
abbrev Q100 : List (Nat × List (Int × Nat) × Nat) := []
noncomputable abbrev X100 : Nat → Ctx := ctxOf tb K100 L100 Q100
theorem E100 : ∀ x, funRun fs X100 6 100 C100 x = C100.fn x := fun x => by kernel_rfl
theorem B100 : ConB Tryz.prog 100 C100 := ConB.make FS MIX TY (cons := K100) (L := L100) (ptrs := Q100) ⟨S140, trivial⟩ trivial trivial rfl rfl E100
theorem S100 : ConS Tryz.prog 100 C100 := B100.call rfl
/-! impl.isWord: function 212 -/
noncomputable def f_impl_isWord (x0 : Int) : Option (Bool) :=
  (f_impl_from x0 0 65535).bind fun y352 =>
  some y352
noncomputable def C212 : Con := ⟨[(.B, false, [(.int .i64)])], [(false, [.bool])], [(.int .i64)], [.bool], fun (p : Int) => f_impl_isWord p⟩
noncomputable abbrev K212 : Cons := [(140, C140)]
noncomputable abbrev L212 : List (Nat × Loops) := []
abbrev Q212 : List (Nat × List (Int × Nat) × Nat) := []
noncomputable abbrev X212 : Nat → Ctx := ctxOf tb K212 L212 Q212
theorem E212 : ∀ x, funRun fs X212 6 212 C212 x = C212.fn x := fun x => by kernel_rfl
theorem B212 : ConB Tryz.prog 212 C212 := ConB.make FS MIX TY (cons := K212) (L := L212) (ptrs := Q212) ⟨S140, trivial⟩ trivial trivial rfl rfl E212
theorem S212 : ConS Tryz.prog 212 C212 := B212.call rfl
/-! impl.wordsOk$1: function 211 -/
noncomputable def f_impl_wordsOk_1 (x0 : Int) : Option (Bool) :=
  (f_impl_isWord x0).bind fun y353 =>
  some (!y353)
noncomputable def C211 : Con := ⟨[(.B, false, [(.int .i64)])], [(false, [.bool])], [(.int .i64)], [.bool], fun (p : Int) => f_impl_wordsOk_1 p⟩
noncomputable abbrev K211 : Cons := [(212, C212)]
noncomputable abbrev L211 : List (Nat × Loops) := []
abbrev Q211 : List (Nat × List (Int × Nat) × Nat) := []
noncomputable abbrev X211 : Nat → Ctx := ctxOf tb K211 L211 Q211
theorem E211 : ∀ x, funRun fs X211 6 211 C211 x = C211.fn x := fun x => by kernel_rfl
theorem B211 : ConB Tryz.prog 211 C211 := ConB.make FS MIX TY (cons := K211) (L := L211) (ptrs := Q211) ⟨S212, trivial⟩ trivial trivial rfl rfl E211
theorem S211 : ConS Tryz.prog 211 C211 := B211.call rfl
/-! impl.wordsOk: function 179 -/
noncomputable def f_impl_wordsOk.l0 : Nat → (List Int) → Int → Int → Int → Option ((Int) ⊕ (Int))
  | 0, _, _, _, _ => none
  | n + 1, p354, p355, p356, p357 =>
    bif (decide (p357 < p356)) then
      bif ((decide ((0 : Int) ≤ p357)) && (decide (p357 < (p354.length : Int)))) then
      (f_impl_wordsOk_1 (p354.getD p357.toNat 0)).bind fun y358 =>
      bif y358 then
        some (.inl p357)
      else
        f_impl_wordsOk.l0 n p354 p355 p356 (IntKind.wrap .i64 (p357 + (1 : Int)))
      else none
    else
      some (.inr p355)
noncomputable def f_impl_wordsOk (x0 : List Int) (x1 : Int) : Option (Bool) :=
  bif (decide ((x0.length : Int) = x1)) then
    (f_impl_wordsOk.l0 N x0 0 (x0.length : Int) 0).bind fun r359 =>
    cs r359 (fun a360 =>
      some (!(decide ((0 : Int) ≤ a360)))) (fun b361 =>
      some true)
  else
    some false
noncomputable def C179 : Con := ⟨[(.B, false, [(.sl R0)]), (.B, false, [(.int .i64)])], [(false, [.bool])], [(.sl R0), (.int .i64)], [.bool], fun (p : List Int × Int) => f_impl_wordsOk p.1 p.2⟩
noncomputable def f_impl_wordsOk.l0.c : LoopCon := ⟨1274, 4, [0, 1, 4, 7, 8], ⟨[(0, .bor none R0 []), (1, .func 211 []), (4, .int .i64 0), (7, .int .i64 0), (8, .int .i64 0)], [], 1274⟩, [(.sl R0), (.int .i64), (.int .i64), (.int .i64)], [⟨.ret, [4], ⟨[(4, .int .i64 0)], [], 1274⟩, [(.int .i64)]⟩, ⟨.exit 0, [4], ⟨[(4, .int .i64 0)], [], 1274⟩, [(.int .i64)]⟩], fun (p : List Int × Int × Int × Int) => f_impl_wordsOk.l0 N p.1 p.2.1 p.2.2.1 p.2.2.2⟩
noncomputable abbrev K179 : Cons := [(211, C211)]
noncomputable abbrev L179 : List (Nat × Loops) := [(222, [(2, f_impl_wordsOk.l0.c)])]
abbrev Q179 : List (Nat × List (Int × Nat) × Nat) := []
noncomputable abbrev X179 : Nat → Ctx := ctxOf tb K179 L179 Q179
theorem f_impl_wordsOk.l0.ok : ∀ n p, (fun (p : List Int × Int × Int × Int) => f_impl_wordsOk.l0 n p.1 p.2.1 p.2.2.1 p.2.2.2) p = iterD (roundOf fs X179 4 222 2 true f_impl_wordsOk.l0.c) n p :=
  iter_of (l := fun n => fun (p : List Int × Int × Int × Int) => f_impl_wordsOk.l0 n p.1 p.2.1 p.2.2.1 p.2.2.2) (fun _ => rfl) (fun n p => by kernel_rfl)
theorem E179 : ∀ x, funRun fs X179 6 179 C179 x = C179.fn x := fun x => by kernel_rfl
theorem B179 : ConB Tryz.prog 179 C179 := ConB.make FS MIX TY (cons := K179) (L := L179) (ptrs := Q179) ⟨S211, trivial⟩ trivial ⟨⟨⟨N, fun p => f_impl_wordsOk.l0.ok N p⟩, trivial⟩, trivial⟩ rfl rfl E179
theorem S179 : ConS Tryz.prog 179 C179 := B179.call rfl
/-! impl.FrameOk: function 120 -/
noncomputable def f_impl_FrameOk (x0 : Int) (x1 : List Int) (x2 : Bool) : Option (Bool) :=
  bif (decide (x0 = (0 : Int))) then
    some (decide ((x1.length : Int) = (0 : Int)))
  else
    bif (decide (x0 = (1 : Int))) then
      (f_impl_wordsOk x1 4).bind fun y362 =>
      some y362
    else
      bif (decide (x0 = (2 : Int))) then
        (f_impl_wordsOk x1 4).bind fun y363 =>
        some y363
      else
        some false
noncomputable def C120 : Con := ⟨[(.B, true, [(.int .i64), (.sl R0), .bool])], [(false, [.bool])], [(.int .i64), (.sl R0), .bool], [.bool], fun (p : Int × List Int × Bool) => f_impl_FrameOk p.1 p.2.1 p.2.2⟩
noncomputable abbrev K120 : Cons := [(179, C179)]
noncomputable abbrev L120 : List (Nat × Loops) := []
abbrev Q120 : List (Nat × List (Int × Nat) × Nat) := []
noncomputable abbrev X120 : Nat → Ctx := ctxOf tb K120 L120 Q120
theorem E120 : ∀ x, funRun fs X120 6 120 C120 x = C120.fn x := fun x => by kernel_rfl
theorem B120 : ConB Tryz.prog 120 C120 := ConB.make FS MIX TY (cons := K120) (L := L120) (ptrs := Q120) ⟨S179, trivial⟩ trivial trivial rfl rfl E120
theorem S120 : ConS Tryz.prog 120 C120 := B120.call rfl
/-! impl.NodeOk$1: function 119 -/
noncomputable def f_impl_NodeOk_1 (x0 : Int) (x1 : List Int) (x2 : Bool) : Option (Bool) :=
  (f_impl_FrameOk x0 x1 x2).bind fun y364 =>
  some (!y364)
noncomputable def C119 : Con := ⟨[(.B, true, [(.int .i64), (.sl R0), .bool])], [(false, [.bool])], [(.int .i64), (.sl R0), .bool], [.bool], fun (p : Int × List Int × Bool) => f_impl_NodeOk_1 p.1 p.2.1 p.2.2⟩
noncomputable abbrev K119 : Cons := [(120, C120)]
noncomputable abbrev L119 : List (Nat × Loops) := []
abbrev Q119 : List (Nat × List (Int × Nat) × Nat) := []
noncomputable abbrev X119 : Nat → Ctx := ctxOf tb K119 L119 Q119
theorem E119 : ∀ x, funRun fs X119 6 119 C119 x = C119.fn x := fun x => by kernel_rfl
theorem B119 : ConB Tryz.prog 119 C119 := ConB.make FS MIX TY (cons := K119) (L := L119) (ptrs := Q119) ⟨S120, trivial⟩ trivial trivial rfl rfl E119
theorem S119 : ConS Tryz.prog 119 C119 := B119.call rfl
/-! impl.HomeOk$1: function 188 -/
noncomputable def f_impl_HomeOk_1 (x0 : Int) (x1 : Bool) (x2 : Int) : Option (Bool) :=
  (f_impl_isOf x0 x2).bind fun y365 =>
  some (!y365)
noncomputable def C188 : Con := ⟨[(.B, true, [(.int .i64), .bool]), (.Q, false, [(.int .i64)])], [(false, [.bool])], [(.int .i64), .bool, (.int .i64)], [.bool], fun (p : Int × Bool × Int) => f_impl_HomeOk_1 p.1 p.2.1 p.2.2⟩
noncomputable abbrev K188 : Cons := [(100, C100)]
noncomputable abbrev L188 : List (Nat × Loops) := []
abbrev Q188 : List (Nat × List (Int × Nat) × Nat) := []
noncomputable abbrev X188 : Nat → Ctx := ctxOf tb K188 L188 Q188
theorem E188 : ∀ x, funG fs X188 6 188 C188 x = C188.fn x := fun x => by kernel_rfl
theorem B188 : ConG Tryz.prog 188 C188 := ConG.make FS MIX TY (cons := K188) (L := L188) (ptrs := Q188) ⟨S100, trivial⟩ trivial trivial rfl (by kernel_rfl) E188
theorem S188 : ConS Tryz.prog 188 C188 := B188.call (by kernel_rfl)
/-! impl.HomeOk: function 123 -/
noncomputable def f_impl_HomeOk.l0 : Nat → (List (Int × Bool)) → Int → Int → Int → (List Int) → Int → (List Bool) → Bool → Int → Bool → Int → (List (Int × Bool)) → Int → Option ((Int × List Int × Int × List Bool × Bool × Int × Bool × Int × (List (Int × Bool)) × Int) ⊕ (Int × List Int × Int × List Bool × Bool × Int × Bool × Int × (List (Int × Bool)) × Int))
  | 0, _, _, _, _, _, _, _, _, _, _, _, _, _ => none
  | n + 1, p371, p372, p373, p374, p375, p376, p377, p378, p379, p380, p381, p382, p383 =>
    bif (decide (p374 < p373)) then
      bif ((decide ((0 : Int) ≤ p374)) && (decide (p374 < (p371.length : Int)))) then
      (f_impl_HomeOk_1 ((p371.getD p374.toNat (0, false)).1) ((p371.getD p374.toNat (0, false)).2) p383).bind fun y384 =>
      bif y384 then
        some (.inl (p374, p375, p376, p377, p378, p379, p380, p381, p382, p383))
      else
        f_impl_HomeOk.l0 n p371 p372 p373 (IntKind.wrap .i64 (p374 + (1 : Int))) p375 p376 p377 p378 p379 p380 p381 p382 p383
      else none
    else
      some (.inr (p372, p375, p376, p377, p378, p379, p380, p381, p382, p383))
noncomputable def f_impl_HomeOk (x0 : List Int) (x1 : Int) (x2 : List Bool) (x3 : Bool) (x4 : Int) (x5 : Bool) (x6 : Int) (x7 : List (Int × Bool)) (x8 : Int) : Option (Bool) :=
  (f_impl_from x8 1 4).bind fun y366 =>
  bif y366 then
    (f_impl_wordsOk x0 4).bind fun y367 =>
    bif y367 then
      (f_impl_from x1 (-1) (IntKind.wrap .i64 (x8 - (1 : Int)))).bind fun y368 =>
      bif y368 then
        bif (decide ((x2.length : Int) = x8)) then
          (f_impl_isOf x4 x8).bind fun y369 =>
          bif y369 then
            (f_impl_from x6 0 x8).bind fun y370 =>
            bif y370 then
              bif (decide ((x7.length : Int) ≤ (12 : Int))) then
                (f_impl_HomeOk.l0 N x7 0 (x7.length : Int) 0 x0 x1 x2 x3 x4 x5 x6 x7 x8).bind fun r385 =>
                cs r385 (fun a386 =>
                  some (!(decide ((0 : Int) ≤ a386.1)))) (fun b387 =>
                  some true)
              else
                some false
            else
              some false
          else
            some false
        else
          some false
      else
        some false
    else
      some false
  else
    some false
noncomputable def C123 : Con := ⟨[(.B, true, [(.sl R0), (.int .i64), (.sl R2), .bool, (.int .i64), .bool, (.int .i64), (.sl R3)]), (.B, false, [(.int .i64)])], [(false, [.bool])], [(.sl R0), (.int .i64), (.sl R2), .bool, (.int .i64), .bool, (.int .i64), (.sl R3), (.int .i64)], [.bool], fun (p : List Int × Int × List Bool × Bool × Int × Bool × Int × (List (Int × Bool)) × Int) => f_impl_HomeOk p.1 p.2.1 p.2.2.1 p.2.2.2.1 p.2.2.2.2.1 p.2.2.2.2.2.1 p.2.2.2.2.2.2.1 p.2.2.2.2.2.2.2.1 p.2.2.2.2.2.2.2.2⟩
noncomputable def f_impl_HomeOk.l0.c : LoopCon := ⟨1921, 4, [0, 1, 4, 7, 8], ⟨[(0, .bor none R3 []), (1, .func 188 [.ptr 1025 0]), (4, .int .i64 0), (7, .int .i64 0), (8, .int .i64 0)], [(1009, .box [.bor (some 0) R0 [], .int .i64 0, .bor (some 2) R2 [], .bool false, .int .i64 0, .bool false, .int .i64 0, .bor (some 7) R3 []]), (1025, .box [.int .i64 0])], 1921⟩, [(.sl R3), (.int .i64), (.int .i64), (.int .i64), (.sl R0), (.int .i64), (.sl R2), .bool, (.int .i64), .bool, (.int .i64), (.sl R3), (.int .i64)], [⟨.ret, [4], ⟨[(4, .int .i64 0)], [(1009, .box [.bor (some 0) R0 [], .int .i64 0, .bor (some 2) R2 [], .bool false, .int .i64 0, .bool false, .int .i64 0, .bor (some 7) R3 []]), (1025, .box [.int .i64 0])], 1921⟩, [(.int .i64), (.sl R0), (.int .i64), (.sl R2), .bool, (.int .i64), .bool, (.int .i64), (.sl R3), (.int .i64)]⟩, ⟨.exit 0, [4], ⟨[(4, .int .i64 0)], [(1009, .box [.bor (some 0) R0 [], .int .i64 0, .bor (some 2) R2 [], .bool false, .int .i64 0, .bool false, .int .i64 0, .bor (some 7) R3 []]), (1025, .box [.int .i64 0])], 1921⟩, [(.int .i64), (.sl R0), (.int .i64), (.sl R2), .bool, (.int .i64), .bool, (.int .i64), (.sl R3), (.int .i64)]⟩], fun (p : (List (Int × Bool)) × Int × Int × Int × List Int × Int × List Bool × Bool × Int × Bool × Int × (List (Int × Bool)) × Int) => f_impl_HomeOk.l0 N p.1 p.2.1 p.2.2.1 p.2.2.2.1 p.2.2.2.2.1 p.2.2.2.2.2.1 p.2.2.2.2.2.2.1 p.2.2.2.2.2.2.2.1 p.2.2.2.2.2.2.2.2.1 p.2.2.2.2.2.2.2.2.2.1 p.2.2.2.2.2.2.2.2.2.2.1 p.2.2.2.2.2.2.2.2.2.2.2.1 p.2.2.2.2.2.2.2.2.2.2.2.2⟩
noncomputable abbrev K123 : Cons := [(100, C100), (140, C140), (179, C179), (188, C188)]
noncomputable abbrev L123 : List (Nat × Loops) := [(217, [(2, f_impl_HomeOk.l0.c)])]
abbrev Q123 : List (Nat × List (Int × Nat) × Nat) := []
noncomputable abbrev X123 : Nat → Ctx := ctxOf tb K123 L123 Q123
theorem f_impl_HomeOk.l0.ok : ∀ n p, (fun (p : (List (Int × Bool)) × Int × Int × Int × List Int × Int × List Bool × Bool × Int × Bool × Int × (List (Int × Bool)) × Int) => f_impl_HomeOk.l0 n p.1 p.2.1 p.2.2.1 p.2.2.2.1 p.2.2.2.2.1 p.2.2.2.2.2.1 p.2.2.2.2.2.2.1 p.2.2.2.2.2.2.2.1 p.2.2.2.2.2.2.2.2.1 p.2.2.2.2.2.2.2.2.2.1 p.2.2.2.2.2.2.2.2.2.2.1 p.2.2.2.2.2.2.2.2.2.2.2.1 p.2.2.2.2.2.2.2.2.2.2.2.2) p = iterD (roundOf fs X123 4 217 2 true f_impl_HomeOk.l0.c) n p :=
  iter_of (l := fun n => fun (p : (List (Int × Bool)) × Int × Int × Int × List Int × Int × List Bool × Bool × Int × Bool × Int × (List (Int × Bool)) × Int) => f_impl_HomeOk.l0 n p.1 p.2.1 p.2.2.1 p.2.2.2.1 p.2.2.2.2.1 p.2.2.2.2.2.1 p.2.2.2.2.2.2.1 p.2.2.2.2.2.2.2.1 p.2.2.2.2.2.2.2.2.1 p.2.2.2.2.2.2.2.2.2.1 p.2.2.2.2.2.2.2.2.2.2.1 p.2.2.2.2.2.2.2.2.2.2.2.1 p.2.2.2.2.2.2.2.2.2.2.2.2) (fun _ => rfl) (fun n p => by kernel_rfl)
theorem E123 : ∀ x, funRun fs X123 6 123 C123 x = C123.fn x := fun x => by kernel_rfl
theorem B123 : ConB Tryz.prog 123 C123 := ConB.make FS MIX TY (cons := K123) (L := L123) (ptrs := Q123) ⟨S100, S140, S179, S188, trivial⟩ trivial ⟨⟨⟨N, fun p => f_impl_HomeOk.l0.ok N p⟩, trivial⟩, trivial⟩ rfl rfl E123
theorem S123 : ConS Tryz.prog 123 C123 := B123.call rfl
/-! impl.NodeOk$2: function 122 -/
noncomputable def f_impl_NodeOk_2 (x0 : List Int) (x1 : Int) (x2 : List Bool) (x3 : Bool) (x4 : Int) (x5 : Bool) (x6 : Int) (x7 : List (Int × Bool)) (x8 : Int) : Option (Bool) :=
  (f_impl_HomeOk x0 x1 x2 x3 x4 x5 x6 x7 x8).bind fun y388 =>
  some (!y388)
noncomputable def C122 : Con := ⟨[(.B, true, [(.sl R0), (.int .i64), (.sl R2), .bool, (.int .i64), .bool, (.int .i64), (.sl R3)]), (.Q, false, [(.int .i64)])], [(false, [.bool])], [(.sl R0), (.int .i64), (.sl R2), .bool, (.int .i64), .bool, (.int .i64), (.sl R3), (.int .i64)], [.bool], fun (p : List Int × Int × List Bool × Bool × Int × Bool × Int × (List (Int × Bool)) × Int) => f_impl_NodeOk_2 p.1 p.2.1 p.2.2.1 p.2.2.2.1 p.2.2.2.2.1 p.2.2.2.2.2.1 p.2.2.2.2.2.2.1 p.2.2.2.2.2.2.2.1 p.2.2.2.2.2.2.2.2⟩
noncomputable abbrev K122 : Cons := [(123, C123)]
noncomputable abbrev L122 : List (Nat × Loops) := []
abbrev Q122 : List (Nat × List (Int × Nat) × Nat) := []
noncomputable abbrev X122 : Nat → Ctx := ctxOf tb K122 L122 Q122
theorem E122 : ∀ x, funG fs X122 6 122 C122 x = C122.fn x := fun x => by kernel_rfl
theorem B122 : ConG Tryz.prog 122 C122 := ConG.make FS MIX TY (cons := K122) (L := L122) (ptrs := Q122) ⟨S123, trivial⟩ trivial trivial rfl (by kernel_rfl) E122
theorem S122 : ConS Tryz.prog 122 C122 := B122.call (by kernel_rfl)
/-! impl.isSeq: function 129 -/
noncomputable def f_impl_isSeq (x0 : Int) : Option (Bool) :=
  (f_impl_from x0 0 100000).bind fun y389 =>
  some y389
noncomputable def C129 : Con := ⟨[(.B, false, [(.int .i64)])], [(false, [.bool])], [(.int .i64)], [.bool], fun (p : Int) => f_impl_isSeq p⟩
noncomputable abbrev K129 : Cons := [(140, C140)]
noncomputable abbrev L129 : List (Nat × Loops) := []
abbrev Q129 : List (Nat × List (Int × Nat) × Nat) := []
noncomputable abbrev X129 : Nat → Ctx := ctxOf tb K129 L129 Q129
theorem E129 : ∀ x, funRun fs X129 6 129 C129 x = C129.fn x := fun x => by kernel_rfl
theorem B129 : ConB Tryz.prog 129 C129 := ConB.make FS MIX TY (cons := K129) (L := L129) (ptrs := Q129) ⟨S140, trivial⟩ trivial trivial rfl rfl E129
theorem S129 : ConS Tryz.prog 129 C129 := B129.call rfl
/-! impl.isPage: function 65 -/
noncomputable def f_impl_isPage (x0 : Int) : Option (Bool) :=
  (f_impl_from x0 0 5).bind fun y390 =>
  some y390
noncomputable def C65 : Con := ⟨[(.B, false, [(.int .i64)])], [(false, [.bool])], [(.int .i64)], [.bool], fun (p : Int) => f_impl_isPage p⟩
noncomputable abbrev K65 : Cons := [(140, C140)]
noncomputable abbrev L65 : List (Nat × Loops) := []
abbrev Q65 : List (Nat × List (Int × Nat) × Nat) := []
noncomputable abbrev X65 : Nat → Ctx := ctxOf tb K65 L65 Q65
theorem E65 : ∀ x, funRun fs X65 6 65 C65 x = C65.fn x := fun x => by kernel_rfl
theorem B65 : ConB Tryz.prog 65 C65 := ConB.make FS MIX TY (cons := K65) (L := L65) (ptrs := Q65) ⟨S140, trivial⟩ trivial trivial rfl rfl E65
theorem S65 : ConS Tryz.prog 65 C65 := B65.call rfl
/-! impl.MsgOk: function 110 -/
noncomputable def f_impl_MsgOk (x0 : Int) (x1 : Int) (x2 : Bool) (x3 : List Int) : Option (Bool) :=
  (f_impl_from x0 1 7).bind fun y391 =>
  bif (!y391) then
    some false
  else
    (f_impl_isPage x1).bind fun y392 =>
    bif (!y392) then
      some false
    else
      bif x2 then
        bif (!(decide (x0 = (3 : Int)))) then
          bif (!(decide (x0 = (6 : Int)))) then
            some false
          else
            bif (decide (x0 = (3 : Int))) then
              (f_impl_wordsOk x3 4).bind fun y393 =>
              some y393
            else
              bif (decide (x0 = (7 : Int))) then
                (f_impl_wordsOk x3 4).bind fun y394 =>
                some y394
              else
                some (decide ((x3.length : Int) = (0 : Int)))
        else
          bif (decide (x0 = (3 : Int))) then
            (f_impl_wordsOk x3 4).bind fun y395 =>
            some y395
          else
            bif (decide (x0 = (7 : Int))) then
              (f_impl_wordsOk x3 4).bind fun y396 =>
              some y396
            else
              some (decide ((x3.length : Int) = (0 : Int)))
      else
        bif (decide (x0 = (3 : Int))) then
          (f_impl_wordsOk x3 4).bind fun y397 =>
          some y397
        else
          bif (decide (x0 = (7 : Int))) then
            (f_impl_wordsOk x3 4).bind fun y398 =>
            some y398
          else
            some (decide ((x3.length : Int) = (0 : Int)))
noncomputable def C110 : Con := ⟨[(.B, true, [(.int .i64), (.int .i64), .bool, (.sl R0)])], [(false, [.bool])], [(.int .i64), (.int .i64), .bool, (.sl R0)], [.bool], fun (p : Int × Int × Bool × List Int) => f_impl_MsgOk p.1 p.2.1 p.2.2.1 p.2.2.2⟩
noncomputable abbrev K110 : Cons := [(65, C65), (140, C140), (179, C179)]
noncomputable abbrev L110 : List (Nat × Loops) := []
abbrev Q110 : List (Nat × List (Int × Nat) × Nat) := []
noncomputable abbrev X110 : Nat → Ctx := ctxOf tb K110 L110 Q110
theorem E110 : ∀ x, funRun fs X110 6 110 C110 x = C110.fn x := fun x => by kernel_rfl
theorem B110 : ConB Tryz.prog 110 C110 := ConB.make FS MIX TY (cons := K110) (L := L110) (ptrs := Q110) ⟨S65, S140, S179, trivial⟩ trivial trivial rfl rfl E110
theorem S110 : ConS Tryz.prog 110 C110 := B110.call rfl
/-! impl.SenderOk$1: function 191 -/
noncomputable def f_impl_SenderOk_1 (x0 : Int) (x1 : Int) (x2 : Bool) (x3 : List Int) : Option (Bool) :=
  (f_impl_MsgOk x0 x1 x2 x3).bind fun y399 =>
  some (!y399)
noncomputable def C191 : Con := ⟨[(.B, true, [(.int .i64), (.int .i64), .bool, (.sl R0)])], [(false, [.bool])], [(.int .i64), (.int .i64), .bool, (.sl R0)], [.bool], fun (p : Int × Int × Bool × List Int) => f_impl_SenderOk_1 p.1 p.2.1 p.2.2.1 p.2.2.2⟩
noncomputable abbrev K191 : Cons := [(110, C110)]
noncomputable abbrev L191 : List (Nat × Loops) := []
abbrev Q191 : List (Nat × List (Int × Nat) × Nat) := []
noncomputable abbrev X191 : Nat → Ctx := ctxOf tb K191 L191 Q191
theorem E191 : ∀ x, funRun fs X191 6 191 C191 x = C191.fn x := fun x => by kernel_rfl
theorem B191 : ConB Tryz.prog 191 C191 := ConB.make FS MIX TY (cons := K191) (L := L191) (ptrs := Q191) ⟨S110, trivial⟩ trivial trivial rfl rfl E191
theorem S191 : ConS Tryz.prog 191 C191 := B191.call rfl
/-! impl.SenderOk: function 126 -/
noncomputable def f_impl_SenderOk.l0 : Nat → (List (Int × Int × Bool × List Int)) → Int → Int → Int → Int → (List (Int × Int × Bool × List Int)) → Option ((Int × Int × (List (Int × Int × Bool × List Int))) ⊕ (Int × Int × (List (Int × Int × Bool × List Int))))
  | 0, _, _, _, _, _, _ => none
  | n + 1, p401, p402, p403, p404, p405, p406 =>
    bif (decide (p404 < p403)) then
      bif ((decide ((0 : Int) ≤ p404)) && (decide (p404 < (p401.length : Int)))) then
      (f_impl_SenderOk_1 ((p401.getD p404.toNat (0, 0, false, [])).1) ((p401.getD p404.toNat (0, 0, false, [])).2.1) ((p401.getD p404.toNat (0, 0, false, [])).2.2.1) ((p401.getD p404.toNat (0, 0, false, [])).2.2.2)).bind fun y407 =>
      bif y407 then
        some (.inl (p404, p405, p406))
      else
        f_impl_SenderOk.l0 n p401 p402 p403 (IntKind.wrap .i64 (p404 + (1 : Int))) p405 p406
      else none
    else
      some (.inr (p402, p405, p406))
noncomputable def f_impl_SenderOk (x0 : Int) (x1 : List (Int × Int × Bool × List Int)) : Option (Bool) :=
  (f_impl_isSeq x0).bind fun y400 =>
  bif y400 then
    bif (decide ((x1.length : Int) ≤ (30 : Int))) then
      bif (decide ((IntKind.wrap .i64 (x0 + (x1.length : Int))) ≤ (100000 : Int))) then
        (f_impl_SenderOk.l0 N x1 0 (x1.length : Int) 0 x0 x1).bind fun r408 =>
        cs r408 (fun a409 =>
          some (!(decide ((0 : Int) ≤ a409.1)))) (fun b410 =>
          some true)
      else
        some false
    else
      some false
  else
    some false
noncomputable def C126 : Con := ⟨[(.B, true, [(.int .i64), (.sl R5)])], [(false, [.bool])], [(.int .i64), (.sl R5)], [.bool], fun (p : Int × (List (Int × Int × Bool × List Int))) => f_impl_SenderOk p.1 p.2⟩
noncomputable def f_impl_SenderOk.l0.c : LoopCon := ⟨1530, 4, [0, 1, 4, 7, 8], ⟨[(0, .bor none R5 []), (1, .func 191 []), (4, .int .i64 0), (7, .int .i64 0), (8, .int .i64 0)], [(1002, .box [.int .i64 0, .bor (some 1) R5 []])], 1530⟩, [(.sl R5), (.int .i64), (.int .i64), (.int .i64), (.int .i64), (.sl R5)], [⟨.ret, [4], ⟨[(4, .int .i64 0)], [(1002, .box [.int .i64 0, .bor (some 1) R5 []])], 1530⟩, [(.int .i64), (.int .i64), (.sl R5)]⟩, ⟨.exit 0, [4], ⟨[(4, .int .i64 0)], [(1002, .box [.int .i64 0, .bor (some 1) R5 []])], 1530⟩, [(.int .i64), (.int .i64), (.sl R5)]⟩], fun (p : (List (Int × Int × Bool × List Int)) × Int × Int × Int × Int × (List (Int × Int × Bool × List Int))) => f_impl_SenderOk.l0 N p.1 p.2.1 p.2.2.1 p.2.2.2.1 p.2.2.2.2.1 p.2.2.2.2.2⟩
noncomputable abbrev K126 : Cons := [(129, C129), (191, C191)]
noncomputable abbrev L126 : List (Nat × Loops) := [(218, [(2, f_impl_SenderOk.l0.c)])]
abbrev Q126 : List (Nat × List (Int × Nat) × Nat) := []
noncomputable abbrev X126 : Nat → Ctx := ctxOf tb K126 L126 Q126
theorem f_impl_SenderOk.l0.ok : ∀ n p, (fun (p : (List (Int × Int × Bool × List Int)) × Int × Int × Int × Int × (List (Int × Int × Bool × List Int))) => f_impl_SenderOk.l0 n p.1 p.2.1 p.2.2.1 p.2.2.2.1 p.2.2.2.2.1 p.2.2.2.2.2) p = iterD (roundOf fs X126 4 218 2 true f_impl_SenderOk.l0.c) n p :=
  iter_of (l := fun n => fun (p : (List (Int × Int × Bool × List Int)) × Int × Int × Int × Int × (List (Int × Int × Bool × List Int))) => f_impl_SenderOk.l0 n p.1 p.2.1 p.2.2.1 p.2.2.2.1 p.2.2.2.2.1 p.2.2.2.2.2) (fun _ => rfl) (fun n p => by kernel_rfl)
theorem E126 : ∀ x, funRun fs X126 6 126 C126 x = C126.fn x := fun x => by kernel_rfl
theorem B126 : ConB Tryz.prog 126 C126 := ConB.make FS MIX TY (cons := K126) (L := L126) (ptrs := Q126) ⟨S129, S191, trivial⟩ trivial ⟨⟨⟨N, fun p => f_impl_SenderOk.l0.ok N p⟩, trivial⟩, trivial⟩ rfl rfl E126
theorem S126 : ConS Tryz.prog 126 C126 := B126.call rfl
/-! impl.NodeOk$3: function 125 -/
noncomputable def f_impl_NodeOk_3 (x0 : Int) (x1 : List (Int × Int × Bool × List Int)) : Option (Bool) :=
  (f_impl_SenderOk x0 x1).bind fun y411 =>
  some (!y411)
noncomputable def C125 : Con := ⟨[(.B, true, [(.int .i64), (.sl R5)])], [(false, [.bool])], [(.int .i64), (.sl R5)], [.bool], fun (p : Int × (List (Int × Int × Bool × List Int))) => f_impl_NodeOk_3 p.1 p.2⟩
noncomputable abbrev K125 : Cons := [(126, C126)]
noncomputable abbrev L125 : List (Nat × Loops) := []
abbrev Q125 : List (Nat × List (Int × Nat) × Nat) := []
noncomputable abbrev X125 : Nat → Ctx := ctxOf tb K125 L125 Q125
theorem E125 : ∀ x, funRun fs X125 6 125 C125 x = C125.fn x := fun x => by kernel_rfl
theorem B125 : ConB Tryz.prog 125 C125 := ConB.make FS MIX TY (cons := K125) (L := L125) (ptrs := Q125) ⟨S126, trivial⟩ trivial trivial rfl rfl E125
theorem S125 : ConS Tryz.prog 125 C125 := B125.call rfl
/-! impl.NodeOk$4: function 128 -/
noncomputable def f_impl_NodeOk_4 (x0 : Int) : Option (Bool) :=
  (f_impl_isSeq x0).bind fun y412 =>
  some (!y412)
noncomputable def C128 : Con := ⟨[(.B, true, [(.int .i64)])], [(false, [.bool])], [(.int .i64)], [.bool], fun (p : Int) => f_impl_NodeOk_4 p⟩
noncomputable abbrev K128 : Cons := [(129, C129)]
noncomputable abbrev L128 : List (Nat × Loops) := []
abbrev Q128 : List (Nat × List (Int × Nat) × Nat) := []
noncomputable abbrev X128 : Nat → Ctx := ctxOf tb K128 L128 Q128
theorem E128 : ∀ x, funRun fs X128 6 128 C128 x = C128.fn x := fun x => by kernel_rfl
theorem B128 : ConB Tryz.prog 128 C128 := ConB.make FS MIX TY (cons := K128) (L := L128) (ptrs := Q128) ⟨S129, trivial⟩ trivial trivial rfl rfl E128
theorem S128 : ConS Tryz.prog 128 C128 := B128.call rfl
end
end Go.Abs
