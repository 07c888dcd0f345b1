import Derived.Test.YtgifligfbjnmfaaProg
import Derived.Test.YtgifligfbjnmfaaAbsD
import Derived.KernelRfl
namespace Go.Abs
open Go.Proofs
set_option linter.unusedVariables false
set_option maxRecDepth 100000
noncomputable section
abbrev N : Nat := 1152921504606846976
abbrev R0 : RT := .one (.int .i64)
abbrev R1 : RT := .cons (.int .i64) (.cons (.sl R0) (.one .bool))
abbrev R2 : RT := .one .bool
abbrev R3 : RT := .cons (.int .i64) (.one .bool)
abbrev R4 : RT := .cons (.sl R0) (.cons (.int .i64) (.cons (.sl R2) (.cons .bool (.cons (.int .i64) (.cons .bool (.cons (.int .i64) (.one (.sl R3))))))))
abbrev R5 : RT := .cons (.int .i64) (.cons (.int .i64) (.cons .bool (.one (.sl R0))))
abbrev R6 : RT := .cons (.int .i64) (.one (.sl R5))
noncomputable def tb : Tb := [(0, ⟨false, [], [], 0, 0⟩),
  (3, ⟨false, [(.int .i64)], [], 0, 8⟩),
  (4, ⟨false, [.bool], [], 0, 1⟩),
  (22, ⟨false, [(.sl R0)], [], 3, 24⟩),
  (24, ⟨true, [(.int .i64), (.int .i64), .bool, (.sl R0)], [(0, 3), (1, 3), (2, 4), (3, 22)], 0, 48⟩),
  (28, ⟨true, [(.int .i64), (.int .i64), .bool, (.sl R0)], [(0, 3), (1, 3), (2, 4), (3, 22)], 0, 48⟩),
  (46, ⟨true, [(.int .i64), (.sl R0), .bool], [(0, 3), (1, 22), (2, 4)], 0, 40⟩),
  (48, ⟨true, [(.int .i64), (.sl R0), .bool], [(0, 3), (1, 22), (2, 4)], 0, 40⟩),
  (93, ⟨false, [], [], 0, 8⟩),
  (99, ⟨false, [(.sl R1)], [], 46, 24⟩),
  (100, ⟨false, [(.sl R4)], [], 184, 24⟩),
  (101, ⟨false, [(.sl R6)], [], 188, 24⟩),
  (102, ⟨false, [(.sl R0)], [], 192, 24⟩),
  (104, ⟨true, [(.int .i64), (.sl R1), (.sl R4), (.sl R6), (.sl R0)], [(0, 3), (1, 99), (2, 100), (3, 101), (4, 102)], 0, 104⟩),
  (107, ⟨false, [(.sl R1)], [], 48, 24⟩),
  (108, ⟨false, [(.sl R4)], [], 151, 24⟩),
  (109, ⟨false, [(.sl R6)], [], 155, 24⟩),
  (110, ⟨false, [(.sl R0)], [], 157, 24⟩),
  (112, ⟨true, [(.int .i64), (.sl R1), (.sl R4), (.sl R6), (.sl R0)], [(0, 3), (1, 107), (2, 108), (3, 109), (4, 110)], 0, 104⟩),
  (116, ⟨false, [], [], 0, 8⟩),
  (119, ⟨false, [], [], 0, 8⟩),
  (146, ⟨false, [(.sl R2)], [], 4, 24⟩),
  (148, ⟨true, [(.int .i64), .bool], [(0, 3), (1, 4)], 0, 16⟩),
  (149, ⟨false, [(.sl R3)], [], 148, 24⟩),
  (151, ⟨true, [(.sl R0), (.int .i64), (.sl R2), .bool, (.int .i64), .bool, (.int .i64), (.sl R3)], [(0, 22), (1, 3), (2, 146), (3, 4), (4, 148), (6, 3), (7, 149)], 0, 112⟩),
  (152, ⟨false, [], [], 0, 8⟩),
  (153, ⟨false, [(.sl R5)], [], 28, 24⟩),
  (155, ⟨true, [(.int .i64), (.sl R5)], [(0, 3), (1, 153)], 0, 32⟩),
  (157, ⟨true, [(.int .i64)], [(0, 3)], 0, 8⟩),
  (165, ⟨false, [], [], 0, 8⟩),
  (168, ⟨false, [], [], 0, 8⟩),
  (181, ⟨true, [(.int .i64), .bool], [(0, 3), (1, 4)], 0, 16⟩),
  (182, ⟨false, [(.sl R3)], [], 181, 24⟩),
  (184, ⟨true, [(.sl R0), (.int .i64), (.sl R2), .bool, (.int .i64), .bool, (.int .i64), (.sl R3)], [(0, 22), (1, 3), (2, 146), (3, 4), (4, 181), (6, 3), (7, 182)], 0, 112⟩),
  (186, ⟨false, [(.sl R5)], [], 24, 24⟩),
  (188, ⟨true, [(.int .i64), (.sl R5)], [(0, 3), (1, 186)], 0, 32⟩),
  (192, ⟨true, [(.int .i64)], [(0, 3)], 0, 8⟩),
  (196, ⟨false, [], [], 0, 8⟩)]
noncomputable def fsL : List (Nat × Func) := [(90, Try.f90), (31, Try.f31), (131, Try.f131), (182, Try.f182), (183, Try.f183), (164, Try.f164), (132, Try.f132), (14, Try.f14), (184, Try.f184), (165, Try.f165), (133, Try.f133), (134, Try.f134), (85, Try.f85), (24, Try.f24), (33, Try.f33), (137, Try.f137), (185, Try.f185), (186, Try.f186), (187, Try.f187), (166, Try.f166), (138, Try.f138), (16, Try.f16), (188, Try.f188), (167, Try.f167), (139, Try.f139), (168, Try.f168), (140, Try.f140), (87, Try.f87), (94, Try.f94), (112, Try.f112), (71, Try.f71), (135, Try.f135), (91, Try.f91), (136, Try.f136), (86, Try.f86), (118, Try.f118), (141, Try.f141), (109, Try.f109), (163, Try.f163), (181, Try.f181), (162, Try.f162), (125, Try.f125), (70, Try.f70), (143, Try.f143), (169, Try.f169), (142, Try.f142), (172, Try.f172), (189, Try.f189), (171, Try.f171), (146, Try.f146), (145, Try.f145), (170, Try.f170), (144, Try.f144), (152, Try.f152), (157, Try.f157), (93, Try.f93), (175, Try.f175), (190, Try.f190), (174, Try.f174), (149, Try.f149), (148, Try.f148), (173, Try.f173), (147, Try.f147), (151, Try.f151), (176, Try.f176), (150, Try.f150), (88, Try.f88), (27, Try.f27), (35, Try.f35), (153, Try.f153), (191, Try.f191), (192, Try.f192), (193, Try.f193), (177, Try.f177), (154, Try.f154), (19, Try.f19), (194, Try.f194), (178, Try.f178), (155, Try.f155), (179, Try.f179), (156, Try.f156), (89, Try.f89), (13, Try.f13)]
noncomputable def fs : Nat → Option Func := getF fsL
theorem MIX : Try.prog.follows .mixedOrders = true := by kernel_rfl
theorem TY : tyCheck Try.prog tb = true := by kernel_rfl
theorem CAT : catCheck tb = true := by kernel_rfl
theorem FSP : FsP Try.prog fsL := ⟨Try.func90, Try.func31, Try.func131, Try.func182, Try.func183, Try.func164, Try.func132, Try.func14, Try.func184, Try.func165, Try.func133, Try.func134, Try.func85, Try.func24, Try.func33, Try.func137, Try.func185, Try.func186, Try.func187, Try.func166, Try.func138, Try.func16, Try.func188, Try.func167, Try.func139, Try.func168, Try.func140, Try.func87, Try.func94, Try.func112, Try.func71, Try.func135, Try.func91, Try.func136, Try.func86, Try.func118, Try.func141, Try.func109, Try.func163, Try.func181, Try.func162, Try.func125, Try.func70, Try.func143, Try.func169, Try.func142, Try.func172, Try.func189, Try.func171, Try.func146, Try.func145, Try.func170, Try.func144, Try.func152, Try.func157, Try.func93, Try.func175, Try.func190, Try.func174, Try.func149, Try.func148, Try.func173, Try.func147, Try.func151, Try.func176, Try.func150, Try.func88, Try.func27, Try.func35, Try.func153, Try.func191, Try.func192, Try.func193, Try.func177, Try.func154, Try.func19, Try.func194, Try.func178, Try.func155, Try.func179, Try.func156, Try.func89, Try.func13, trivial⟩
theorem FSC : (fsL.all fun p => fnChk p.2) = true := by kernel_rfl
theorem FS : FsS Try.prog fs := FsS.of FSP FSC
/-! laws.szIntS: function 90 -/
noncomputable def f_laws_szIntS (x0 : List Int) (x1 : Int) : Option (Int) :=
  bif (decide ((IntKind.wrap .i64 (x1 - (x0.length : Int))) < (0 : Int))) then
    some (-1)
  else
    some (IntKind.wrap .i64 (x1 - (x0.length : Int)))
noncomputable def C90 : Con := ⟨[(.B, false, [(.sl R0)]), (.B, false, [(.int .i64)])], [(false, [(.int .i64)])], [(.sl R0), (.int .i64)], [(.int .i64)], fun (p : List Int × Int) => f_laws_szIntS p.1 p.2⟩
noncomputable abbrev K90 : Cons := []
noncomputable abbrev L90 : List (Nat × Loops) := []
abbrev Q90 : List (Nat × List (Int × Nat) × Nat) := []
noncomputable abbrev X90 : Nat → Ctx := ctxOf tb K90 L90 Q90
theorem E90 : ∀ x, funRun fs X90 6 90 C90 x = C90.fn x := fun x => by kernel_rfl
theorem B90 : ConB Try.prog 90 C90 := ConB.make FS MIX TY (cons := K90) (L := L90) (ptrs := Q90) trivial trivial trivial rfl rfl E90
theorem S90 : ConS Try.prog 90 C90 := B90.call rfl
/-! laws.szFrame: function 31 -/
noncomputable def f_laws_szFrame (x0 : Int) (x1 : List Int) (x2 : Bool) (x3 : Int) : Option (Int) :=
  (f_laws_szIntS x1 x3).bind fun y1 =>
  bif (decide (y1 < (0 : Int))) then
    some (-1)
  else
    some y1
noncomputable def C31 : Con := ⟨[(.B, true, [(.int .i64), (.sl R0), .bool]), (.B, false, [(.int .i64)])], [(false, [(.int .i64)])], [(.int .i64), (.sl R0), .bool, (.int .i64)], [(.int .i64)], fun (p : Int × List Int × Bool × Int) => f_laws_szFrame p.1 p.2.1 p.2.2.1 p.2.2.2⟩
noncomputable abbrev K31 : Cons := [(90, C90)]
noncomputable abbrev L31 : List (Nat × Loops) := []
abbrev Q31 : List (Nat × List (Int × Nat) × Nat) := []
noncomputable abbrev X31 : Nat → Ctx := ctxOf tb K31 L31 Q31
theorem E31 : ∀ x, funRun fs X31 6 31 C31 x = C31.fn x := fun x => by kernel_rfl
theorem B31 : ConB Try.prog 31 C31 := ConB.make FS MIX TY (cons := K31) (L := L31) (ptrs := Q31) ⟨S90, trivial⟩ trivial trivial rfl rfl E31
theorem S31 : ConS Try.prog 31 C31 := B31.call rfl
/-! laws.szFrameS: function 131 -/
noncomputable def f_laws_szFrameS.l0 : Nat → (List (Int × List Int × Bool)) → Int → Int → Int → Option ((Int) ⊕ (Int × Int))
  | 0, _, _, _, _ => none
  | n + 1, p2, p3, p4, p5 =>
    bif (decide (p5 < (p2.length : Int))) then
      bif ((decide ((0 : Int) ≤ p5)) && (decide (p5 < (p2.length : Int)))) then
      (f_laws_szFrame ((p2.getD p5.toNat (0, [], false)).1) ((p2.getD p5.toNat (0, [], false)).2.1) ((p2.getD p5.toNat (0, [], false)).2.2) p3).bind fun y6 =>
      bif (decide (y6 < (0 : Int))) then
        some (.inl (-1))
      else
        f_laws_szFrameS.l0 n p2 y6 p4 (IntKind.wrap .i64 (p5 + (1 : Int)))
      else none
    else
      some (.inr (p3, p4))
noncomputable def f_laws_szFrameS (x0 : List (Int × List Int × Bool)) (x1 : Int) : Option (Int) :=
  bif (decide ((IntKind.wrap .i64 (x1 - (x0.length : Int))) < (0 : Int))) then
    some (-1)
  else
    (f_laws_szFrameS.l0 N x0 (IntKind.wrap .i64 (x1 - (x0.length : Int))) 0 0).bind fun r7 =>
    cs r7 (fun a8 =>
      some a8) (fun b9 =>
      some b9.1)
noncomputable def C131 : Con := ⟨[(.B, false, [(.sl R1)]), (.B, false, [(.int .i64)])], [(false, [(.int .i64)])], [(.sl R1), (.int .i64)], [(.int .i64)], fun (p : (List (Int × List Int × Bool)) × Int) => f_laws_szFrameS p.1 p.2⟩
noncomputable def f_laws_szFrameS.l0.c : LoopCon := ⟨1000, 6, [0, 1, 4, 5], ⟨[(0, .bor none R1 []), (1, .int .i64 0), (4, .int .i64 0), (5, .int .i64 0)], [], 1000⟩, [(.sl R1), (.int .i64), (.int .i64), (.int .i64)], [⟨.ret, [4], ⟨[(4, .int .i64 0)], [], 1000⟩, [(.int .i64)]⟩, ⟨.exit 0, [1, 4], ⟨[(1, .int .i64 0), (4, .int .i64 0)], [], 1000⟩, [(.int .i64), (.int .i64)]⟩], fun (p : (List (Int × List Int × Bool)) × Int × Int × Int) => f_laws_szFrameS.l0 N p.1 p.2.1 p.2.2.1 p.2.2.2⟩
noncomputable abbrev K131 : Cons := [(31, C31)]
noncomputable abbrev L131 : List (Nat × Loops) := [(131, [(5, f_laws_szFrameS.l0.c)])]
abbrev Q131 : List (Nat × List (Int × Nat) × Nat) := []
noncomputable abbrev X131 : Nat → Ctx := ctxOf tb K131 L131 Q131
theorem f_laws_szFrameS.l0.ok : ∀ n p, (fun (p : (List (Int × List Int × Bool)) × Int × Int × Int) => f_laws_szFrameS.l0 n p.1 p.2.1 p.2.2.1 p.2.2.2) p = iterD (roundOf fs X131 6 131 5 false f_laws_szFrameS.l0.c) n p :=
  iter_of (l := fun n => fun (p : (List (Int × List Int × Bool)) × Int × Int × Int) => f_laws_szFrameS.l0 n p.1 p.2.1 p.2.2.1 p.2.2.2) (fun _ => rfl) (fun n p => by kernel_rfl)
theorem E131 : ∀ x, funRun fs X131 6 131 C131 x = C131.fn x := fun x => by kernel_rfl
theorem B131 : ConB Try.prog 131 C131 := ConB.make FS MIX TY (cons := K131) (L := L131) (ptrs := Q131) ⟨S31, trivial⟩ trivial ⟨⟨⟨N, fun p => f_laws_szFrameS.l0.ok N p⟩, trivial⟩, trivial⟩ rfl rfl E131
theorem S131 : ConS Try.prog 131 C131 := B131.call rfl
/-! laws.szBoolS: function 182 -/
noncomputable def f_laws_szBoolS (x0 : List Bool) (x1 : Int) : Option (Int) :=
  bif (decide ((IntKind.wrap .i64 (x1 - (x0.length : Int))) < (0 : Int))) then
    some (-1)
  else
    some (IntKind.wrap .i64 (x1 - (x0.length : Int)))
noncomputable def C182 : Con := ⟨[(.B, false, [(.sl R2)]), (.B, false, [(.int .i64)])], [(false, [(.int .i64)])], [(.sl R2), (.int .i64)], [(.int .i64)], fun (p : List Bool × Int) => f_laws_szBoolS p.1 p.2⟩
noncomputable abbrev K182 : Cons := []
noncomputable abbrev L182 : List (Nat × Loops) := []
abbrev Q182 : List (Nat × List (Int × Nat) × Nat) := []
noncomputable abbrev X182 : Nat → Ctx := ctxOf tb K182 L182 Q182
theorem E182 : ∀ x, funRun fs X182 6 182 C182 x = C182.fn x := fun x => by kernel_rfl
theorem B182 : ConB Try.prog 182 C182 := ConB.make FS MIX TY (cons := K182) (L := L182) (ptrs := Q182) trivial trivial trivial rfl rfl E182
theorem S182 : ConS Try.prog 182 C182 := B182.call rfl
/-! laws.szWaitS: function 183 -/
noncomputable def f_laws_szWaitS (x0 : List (Int × Bool)) (x1 : Int) : Option (Int) :=
  bif (decide ((IntKind.wrap .i64 (x1 - (x0.length : Int))) < (0 : Int))) then
    some (-1)
  else
    some (IntKind.wrap .i64 (x1 - (x0.length : Int)))
noncomputable def C183 : Con := ⟨[(.B, false, [(.sl R3)]), (.B, false, [(.int .i64)])], [(false, [(.int .i64)])], [(.sl R3), (.int .i64)], [(.int .i64)], fun (p : (List (Int × Bool)) × Int) => f_laws_szWaitS p.1 p.2⟩
noncomputable abbrev K183 : Cons := []
noncomputable abbrev L183 : List (Nat × Loops) := []
abbrev Q183 : List (Nat × List (Int × Nat) × Nat) := []
noncomputable abbrev X183 : Nat → Ctx := ctxOf tb K183 L183 Q183
theorem E183 : ∀ x, funRun fs X183 6 183 C183 x = C183.fn x := fun x => by kernel_rfl
theorem B183 : ConB Try.prog 183 C183 := ConB.make FS MIX TY (cons := K183) (L := L183) (ptrs := Q183) trivial trivial trivial rfl rfl E183
theorem S183 : ConS Try.prog 183 C183 := B183.call rfl
/-! laws.szHome: function 164 -/
noncomputable def f_laws_szHome (x0 : List Int) (x1 : Int) (x2 : List Bool) (x3 : Bool) (x4 : Int) (x5 : Bool) (x6 : Int) (x7 : List (Int × Bool)) (x8 : Int) : Option (Int) :=
  (f_laws_szIntS x0 x8).bind fun y10 =>
  bif (decide (y10 < (0 : Int))) then
    some (-1)
  else
    (f_laws_szBoolS x2 y10).bind fun y11 =>
    bif (decide (y11 < (0 : Int))) then
      some (-1)
    else
      (f_laws_szWaitS x7 y11).bind fun y12 =>
      bif (decide (y12 < (0 : Int))) then
        some (-1)
      else
        some y12
noncomputable def C164 : Con := ⟨[(.B, true, [(.sl R0), (.int .i64), (.sl R2), .bool, (.int .i64), .bool, (.int .i64), (.sl R3)]), (.B, false, [(.int .i64)])], [(false, [(.int .i64)])], [(.sl R0), (.int .i64), (.sl R2), .bool, (.int .i64), .bool, (.int .i64), (.sl R3), (.int .i64)], [(.int .i64)], fun (p : List Int × Int × List Bool × Bool × Int × Bool × Int × (List (Int × Bool)) × Int) => f_laws_szHome p.1 p.2.1 p.2.2.1 p.2.2.2.1 p.2.2.2.2.1 p.2.2.2.2.2.1 p.2.2.2.2.2.2.1 p.2.2.2.2.2.2.2.1 p.2.2.2.2.2.2.2.2⟩
noncomputable abbrev K164 : Cons := [(90, C90), (182, C182), (183, C183)]
noncomputable abbrev L164 : List (Nat × Loops) := []
abbrev Q164 : List (Nat × List (Int × Nat) × Nat) := []
noncomputable abbrev X164 : Nat → Ctx := ctxOf tb K164 L164 Q164
theorem E164 : ∀ x, funRun fs X164 6 164 C164 x = C164.fn x := fun x => by kernel_rfl
theorem B164 : ConB Try.prog 164 C164 := ConB.make FS MIX TY (cons := K164) (L := L164) (ptrs := Q164) ⟨S90, S182, S183, trivial⟩ trivial trivial rfl rfl E164
theorem S164 : ConS Try.prog 164 C164 := B164.call rfl
/-! laws.szHomeS: function 132 -/
noncomputable def f_laws_szHomeS.l0 : Nat → (List (List Int × Int × List Bool × Bool × Int × Bool × Int × (List (Int × Bool)))) → Int → Int → Int → Option ((Int) ⊕ (Int × Int))
  | 0, _, _, _, _ => none
  | n + 1, p13, p14, p15, p16 =>
    bif (decide (p16 < (p13.length : Int))) then
      bif ((decide ((0 : Int) ≤ p16)) && (decide (p16 < (p13.length : Int)))) then
      (f_laws_szHome ((p13.getD p16.toNat ([], 0, [], false, 0, false, 0, [])).1) ((p13.getD p16.toNat ([], 0, [], false, 0, false, 0, [])).2.1) ((p13.getD p16.toNat ([], 0, [], false, 0, false, 0, [])).2.2.1) ((p13.getD p16.toNat ([], 0, [], false, 0, false, 0, [])).2.2.2.1) ((p13.getD p16.toNat ([], 0, [], false, 0, false, 0, [])).2.2.2.2.1) ((p13.getD p16.toNat ([], 0, [], false, 0, false, 0, [])).2.2.2.2.2.1) ((p13.getD p16.toNat ([], 0, [], false, 0, false, 0, [])).2.2.2.2.2.2.1) ((p13.getD p16.toNat ([], 0, [], false, 0, false, 0, [])).2.2.2.2.2.2.2) p14).bind fun y17 =>
      bif (decide (y17 < (0 : Int))) then
        some (.inl (-1))
      else
        f_laws_szHomeS.l0 n p13 y17 p15 (IntKind.wrap .i64 (p16 + (1 : Int)))
      else none
    else
      some (.inr (p14, p15))
noncomputable def f_laws_szHomeS (x0 : List (List Int × Int × List Bool × Bool × Int × Bool × Int × (List (Int × Bool)))) (x1 : Int) : Option (Int) :=
  bif (decide ((IntKind.wrap .i64 (x1 - (x0.length : Int))) < (0 : Int))) then
    some (-1)
  else
    (f_laws_szHomeS.l0 N x0 (IntKind.wrap .i64 (x1 - (x0.length : Int))) 0 0).bind fun r18 =>
    cs r18 (fun a19 =>
      some a19) (fun b20 =>
      some b20.1)
noncomputable def C132 : Con := ⟨[(.B, false, [(.sl R4)]), (.B, false, [(.int .i64)])], [(false, [(.int .i64)])], [(.sl R4), (.int .i64)], [(.int .i64)], fun (p : (List (List Int × Int × List Bool × Bool × Int × Bool × Int × (List (Int × Bool)))) × Int) => f_laws_szHomeS p.1 p.2⟩
noncomputable def f_laws_szHomeS.l0.c : LoopCon := ⟨1000, 6, [0, 1, 4, 5], ⟨[(0, .bor none R4 []), (1, .int .i64 0), (4, .int .i64 0), (5, .int .i64 0)], [], 1000⟩, [(.sl R4), (.int .i64), (.int .i64), (.int .i64)], [⟨.ret, [4], ⟨[(4, .int .i64 0)], [], 1000⟩, [(.int .i64)]⟩, ⟨.exit 0, [1, 4], ⟨[(1, .int .i64 0), (4, .int .i64 0)], [], 1000⟩, [(.int .i64), (.int .i64)]⟩], fun (p : (List (List Int × Int × List Bool × Bool × Int × Bool × Int × (List (Int × Bool)))) × Int × Int × Int) => f_laws_szHomeS.l0 N p.1 p.2.1 p.2.2.1 p.2.2.2⟩
noncomputable abbrev K132 : Cons := [(164, C164)]
noncomputable abbrev L132 : List (Nat × Loops) := [(132, [(5, f_laws_szHomeS.l0.c)])]
abbrev Q132 : List (Nat × List (Int × Nat) × Nat) := []
noncomputable abbrev X132 : Nat → Ctx := ctxOf tb K132 L132 Q132
theorem f_laws_szHomeS.l0.ok : ∀ n p, (fun (p : (List (List Int × Int × List Bool × Bool × Int × Bool × Int × (List (Int × Bool)))) × Int × Int × Int) => f_laws_szHomeS.l0 n p.1 p.2.1 p.2.2.1 p.2.2.2) p = iterD (roundOf fs X132 6 132 5 false f_laws_szHomeS.l0.c) n p :=
  iter_of (l := fun n => fun (p : (List (List Int × Int × List Bool × Bool × Int × Bool × Int × (List (Int × Bool)))) × Int × Int × Int) => f_laws_szHomeS.l0 n p.1 p.2.1 p.2.2.1 p.2.2.2) (fun _ => rfl) (fun n p => by kernel_rfl)
theorem E132 : ∀ x, funRun fs X132 6 132 C132 x = C132.fn x := fun x => by kernel_rfl
theorem B132 : ConB Try.prog 132 C132 := ConB.make FS MIX TY (cons := K132) (L := L132) (ptrs := Q132) ⟨S164, trivial⟩ trivial ⟨⟨⟨N, fun p => f_laws_szHomeS.l0.ok N p⟩, trivial⟩, trivial⟩ rfl rfl E132
theorem S132 : ConS Try.prog 132 C132 := B132.call rfl
/-! laws.szMsg: function 14 -/
noncomputable def f_laws_szMsg (x0 : Int) (x1 : Int) (x2 : Bool) (x3 : List Int) (x4 : Int) : Option (Int) :=
  (f_laws_szIntS x3 x4).bind fun y21 =>
  bif (decide (y21 < (0 : Int))) then
    some (-1)
  else
    some y21
noncomputable def C14 : Con := ⟨[(.B, true, [(.int .i64), (.int .i64), .bool, (.sl R0)]), (.B, false, [(.int .i64)])], [(false, [(.int .i64)])], [(.int .i64), (.int .i64), .bool, (.sl R0), (.int .i64)], [(.int .i64)], fun (p : Int × Int × Bool × List Int × Int) => f_laws_szMsg p.1 p.2.1 p.2.2.1 p.2.2.2.1 p.2.2.2.2⟩
noncomputable abbrev K14 : Cons := [(90, C90)]
noncomputable abbrev L14 : List (Nat × Loops) := []
abbrev Q14 : List (Nat × List (Int × Nat) × Nat) := []
noncomputable abbrev X14 : Nat → Ctx := ctxOf tb K14 L14 Q14
theorem E14 : ∀ x, funRun fs X14 6 14 C14 x = C14.fn x := fun x => by kernel_rfl
theorem B14 : ConB Try.prog 14 C14 := ConB.make FS MIX TY (cons := K14) (L := L14) (ptrs := Q14) ⟨S90, trivial⟩ trivial trivial rfl rfl E14
theorem S14 : ConS Try.prog 14 C14 := B14.call rfl
/-! laws.szMsgS: function 184 -/
noncomputable def f_laws_szMsgS.l0 : Nat → (List (Int × Int × Bool × List Int)) → Int → Int → Int → Option ((Int) ⊕ (Int × Int))
  | 0, _, _, _, _ => none
  | n + 1, p22, p23, p24, p25 =>
    bif (decide (p25 < (p22.length : Int))) then
      bif ((decide ((0 : Int) ≤ p25)) && (decide (p25 < (p22.length : Int)))) then
      (f_laws_szMsg ((p22.getD p25.toNat (0, 0, false, [])).1) ((p22.getD p25.toNat (0, 0, false, [])).2.1) ((p22.getD p25.toNat (0, 0, false, [])).2.2.1) ((p22.getD p25.toNat (0, 0, false, [])).2.2.2) p23).bind fun y26 =>
      bif (decide (y26 < (0 : Int))) then
        some (.inl (-1))
      else
        f_laws_szMsgS.l0 n p22 y26 p24 (IntKind.wrap .i64 (p25 + (1 : Int)))
      else none
    else
      some (.inr (p23, p24))
noncomputable def f_laws_szMsgS (x0 : List (Int × Int × Bool × List Int)) (x1 : Int) : Option (Int) :=
  bif (decide ((IntKind.wrap .i64 (x1 - (x0.length : Int))) < (0 : Int))) then
    some (-1)
  else
    (f_laws_szMsgS.l0 N x0 (IntKind.wrap .i64 (x1 - (x0.length : Int))) 0 0).bind fun r27 =>
    cs r27 (fun a28 =>
      some a28) (fun b29 =>
      some b29.1)
noncomputable def C184 : Con := ⟨[(.B, false, [(.sl R5)]), (.B, false, [(.int .i64)])], [(false, [(.int .i64)])], [(.sl R5), (.int .i64)], [(.int .i64)], fun (p : (List (Int × Int × Bool × List Int)) × Int) => f_laws_szMsgS p.1 p.2⟩
noncomputable def f_laws_szMsgS.l0.c : LoopCon := ⟨1000, 6, [0, 1, 4, 5], ⟨[(0, .bor none R5 []), (1, .int .i64 0), (4, .int .i64 0), (5, .int .i64 0)], [], 1000⟩, [(.sl R5), (.int .i64), (.int .i64), (.int .i64)], [⟨.ret, [4], ⟨[(4, .int .i64 0)], [], 1000⟩, [(.int .i64)]⟩, ⟨.exit 0, [1, 4], ⟨[(1, .int .i64 0), (4, .int .i64 0)], [], 1000⟩, [(.int .i64), (.int .i64)]⟩], fun (p : (List (Int × Int × Bool × List Int)) × Int × Int × Int) => f_laws_szMsgS.l0 N p.1 p.2.1 p.2.2.1 p.2.2.2⟩
noncomputable abbrev K184 : Cons := [(14, C14)]
noncomputable abbrev L184 : List (Nat × Loops) := [(184, [(5, f_laws_szMsgS.l0.c)])]
abbrev Q184 : List (Nat × List (Int × Nat) × Nat) := []
noncomputable abbrev X184 : Nat → Ctx := ctxOf tb K184 L184 Q184
theorem f_laws_szMsgS.l0.ok : ∀ n p, (fun (p : (List (Int × Int × Bool × List Int)) × Int × Int × Int) => f_laws_szMsgS.l0 n p.1 p.2.1 p.2.2.1 p.2.2.2) p = iterD (roundOf fs X184 6 184 5 false f_laws_szMsgS.l0.c) n p :=
  iter_of (l := fun n => fun (p : (List (Int × Int × Bool × List Int)) × Int × Int × Int) => f_laws_szMsgS.l0 n p.1 p.2.1 p.2.2.1 p.2.2.2) (fun _ => rfl) (fun n p => by kernel_rfl)
theorem E184 : ∀ x, funRun fs X184 6 184 C184 x = C184.fn x := fun x => by kernel_rfl
theorem B184 : ConB Try.prog 184 C184 := ConB.make FS MIX TY (cons := K184) (L := L184) (ptrs := Q184) ⟨S14, trivial⟩ trivial ⟨⟨⟨N, fun p => f_laws_szMsgS.l0.ok N p⟩, trivial⟩, trivial⟩ rfl rfl E184
theorem S184 : ConS Try.prog 184 C184 := B184.call rfl
/-! laws.szSender: function 165 -/
noncomputable def f_laws_szSender (x0 : Int) (x1 : List (Int × Int × Bool × List Int)) (x2 : Int) : Option (Int) :=
  (f_laws_szMsgS x1 x2).bind fun y30 =>
  bif (decide (y30 < (0 : Int))) then
    some (-1)
  else
    some y30
noncomputable def C165 : Con := ⟨[(.B, true, [(.int .i64), (.sl R5)]), (.B, false, [(.int .i64)])], [(false, [(.int .i64)])], [(.int .i64), (.sl R5), (.int .i64)], [(.int .i64)], fun (p : Int × (List (Int × Int × Bool × List Int)) × Int) => f_laws_szSender p.1 p.2.1 p.2.2⟩
noncomputable abbrev K165 : Cons := [(184, C184)]
noncomputable abbrev L165 : List (Nat × Loops) := []
abbrev Q165 : List (Nat × List (Int × Nat) × Nat) := []
noncomputable abbrev X165 : Nat → Ctx := ctxOf tb K165 L165 Q165
theorem E165 : ∀ x, funRun fs X165 6 165 C165 x = C165.fn x := fun x => by kernel_rfl
theorem B165 : ConB Try.prog 165 C165 := ConB.make FS MIX TY (cons := K165) (L := L165) (ptrs := Q165) ⟨S184, trivial⟩ trivial trivial rfl rfl E165
theorem S165 : ConS Try.prog 165 C165 := B165.call rfl
/-! laws.szSenderS: function 133 -/
noncomputable def f_laws_szSenderS.l0 : Nat → (List (Int × (List (Int × Int × Bool × List Int)))) → Int → Int → Int → Option ((Int) ⊕ (Int × Int))
  | 0, _, _, _, _ => none
  | n + 1, p31, p32, p33, p34 =>
    bif (decide (p34 < (p31.length : Int))) then
      bif ((decide ((0 : Int) ≤ p34)) && (decide (p34 < (p31.length : Int)))) then
      (f_laws_szSender ((p31.getD p34.toNat (0, [])).1) ((p31.getD p34.toNat (0, [])).2) p32).bind fun y35 =>
      bif (decide (y35 < (0 : Int))) then
        some (.inl (-1))
      else
        f_laws_szSenderS.l0 n p31 y35 p33 (IntKind.wrap .i64 (p34 + (1 : Int)))
      else none
    else
      some (.inr (p32, p33))
noncomputable def f_laws_szSenderS (x0 : List (Int × (List (Int × Int × Bool × List Int)))) (x1 : Int) : Option (Int) :=
  bif (decide ((IntKind.wrap .i64 (x1 - (x0.length : Int))) < (0 : Int))) then
    some (-1)
  else
    (f_laws_szSenderS.l0 N x0 (IntKind.wrap .i64 (x1 - (x0.length : Int))) 0 0).bind fun r36 =>
    cs r36 (fun a37 =>
      some a37) (fun b38 =>
      some b38.1)
noncomputable def C133 : Con := ⟨[(.B, false, [(.sl R6)]), (.B, false, [(.int .i64)])], [(false, [(.int .i64)])], [(.sl R6), (.int .i64)], [(.int .i64)], fun (p : (List (Int × (List (Int × Int × Bool × List Int)))) × Int) => f_laws_szSenderS p.1 p.2⟩
noncomputable def f_laws_szSenderS.l0.c : LoopCon := ⟨1000, 6, [0, 1, 4, 5], ⟨[(0, .bor none R6 []), (1, .int .i64 0), (4, .int .i64 0), (5, .int .i64 0)], [], 1000⟩, [(.sl R6), (.int .i64), (.int .i64), (.int .i64)], [⟨.ret, [4], ⟨[(4, .int .i64 0)], [], 1000⟩, [(.int .i64)]⟩, ⟨.exit 0, [1, 4], ⟨[(1, .int .i64 0), (4, .int .i64 0)], [], 1000⟩, [(.int .i64), (.int .i64)]⟩], fun (p : (List (Int × (List (Int × Int × Bool × List Int)))) × Int × Int × Int) => f_laws_szSenderS.l0 N p.1 p.2.1 p.2.2.1 p.2.2.2⟩
noncomputable abbrev K133 : Cons := [(165, C165)]
noncomputable abbrev L133 : List (Nat × Loops) := [(133, [(5, f_laws_szSenderS.l0.c)])]
abbrev Q133 : List (Nat × List (Int × Nat) × Nat) := []
noncomputable abbrev X133 : Nat → Ctx := ctxOf tb K133 L133 Q133
theorem f_laws_szSenderS.l0.ok : ∀ n p, (fun (p : (List (Int × (List (Int × Int × Bool × List Int)))) × Int × Int × Int) => f_laws_szSenderS.l0 n p.1 p.2.1 p.2.2.1 p.2.2.2) p = iterD (roundOf fs X133 6 133 5 false f_laws_szSenderS.l0.c) n p :=
  iter_of (l := fun n => fun (p : (List (Int × (List (Int × Int × Bool × List Int)))) × Int × Int × Int) => f_laws_szSenderS.l0 n p.1 p.2.1 p.2.2.1 p.2.2.2) (fun _ => rfl) (fun n p => by kernel_rfl)
theorem E133 : ∀ x, funRun fs X133 6 133 C133 x = C133.fn x := fun x => by kernel_rfl
theorem B133 : ConB Try.prog 133 C133 := ConB.make FS MIX TY (cons := K133) (L := L133) (ptrs := Q133) ⟨S165, trivial⟩ trivial ⟨⟨⟨N, fun p => f_laws_szSenderS.l0.ok N p⟩, trivial⟩, trivial⟩ rfl rfl E133
theorem S133 : ConS Try.prog 133 C133 := B133.call rfl
/-! laws.szReceiverS: function 134 -/
noncomputable def f_laws_szReceiverS (x0 : List Int) (x1 : Int) : Option (Int) :=
  bif (decide ((IntKind.wrap .i64 (x1 - (x0.length : Int))) < (0 : Int))) then
    some (-1)
  else
    some (IntKind.wrap .i64 (x1 - (x0.length : Int)))
noncomputable def C134 : Con := ⟨[(.B, false, [(.sl R0)]), (.B, false, [(.int .i64)])], [(false, [(.int .i64)])], [(.sl R0), (.int .i64)], [(.int .i64)], fun (p : List Int × Int) => f_laws_szReceiverS p.1 p.2⟩
noncomputable abbrev K134 : Cons := []
noncomputable abbrev L134 : List (Nat × Loops) := []
abbrev Q134 : List (Nat × List (Int × Nat) × Nat) := []
noncomputable abbrev X134 : Nat → Ctx := ctxOf tb K134 L134 Q134
theorem E134 : ∀ x, funRun fs X134 6 134 C134 x = C134.fn x := fun x => by kernel_rfl
theorem B134 : ConB Try.prog 134 C134 := ConB.make FS MIX TY (cons := K134) (L := L134) (ptrs := Q134) trivial trivial trivial rfl rfl E134
theorem S134 : ConS Try.prog 134 C134 := B134.call rfl
/-! laws.szNode: function 85 -/
noncomputable def f_laws_szNode (x0 : Int) (x1 : List (Int × List Int × Bool)) (x2 : List (List Int × Int × List Bool × Bool × Int × Bool × Int × (List (Int × Bool)))) (x3 : List (Int × (List (Int × Int × Bool × List Int)))) (x4 : List Int) (x5 : Int) : Option (Int) :=
  (f_laws_szFrameS x1 x5).bind fun y39 =>
  bif (decide (y39 < (0 : Int))) then
    some (-1)
  else
    (f_laws_szHomeS x2 y39).bind fun y40 =>
    bif (decide (y40 < (0 : Int))) then
      some (-1)
    else
      (f_laws_szSenderS x3 y40).bind fun y41 =>
      bif (decide (y41 < (0 : Int))) then
        some (-1)
      else
        (f_laws_szReceiverS x4 y41).bind fun y42 =>
        bif (decide (y42 < (0 : Int))) then
          some (-1)
        else
          some y42
noncomputable def C85 : Con := ⟨[(.B, true, [(.int .i64), (.sl R1), (.sl R4), (.sl R6), (.sl R0)]), (.B, false, [(.int .i64)])], [(false, [(.int .i64)])], [(.int .i64), (.sl R1), (.sl R4), (.sl R6), (.sl R0), (.int .i64)], [(.int .i64)], fun (p : Int × (List (Int × List Int × Bool)) × (List (List Int × Int × List Bool × Bool × Int × Bool × Int × (List (Int × Bool)))) × (List (Int × (List (Int × Int × Bool × List Int)))) × List Int × Int) => f_laws_szNode p.1 p.2.1 p.2.2.1 p.2.2.2.1 p.2.2.2.2.1 p.2.2.2.2.2⟩
noncomputable abbrev K85 : Cons := [(131, C131), (132, C132), (133, C133), (134, C134)]
noncomputable abbrev L85 : List (Nat × Loops) := []
abbrev Q85 : List (Nat × List (Int × Nat) × Nat) := []
noncomputable abbrev X85 : Nat → Ctx := ctxOf tb K85 L85 Q85
theorem E85 : ∀ x, funRun fs X85 6 85 C85 x = C85.fn x := fun x => by kernel_rfl
theorem B85 : ConB Try.prog 85 C85 := ConB.make FS MIX TY (cons := K85) (L := L85) (ptrs := Q85) ⟨S131, S132, S133, S134, trivial⟩ trivial trivial rfl rfl E85
theorem S85 : ConS Try.prog 85 C85 := B85.call rfl
/-! laws.toIntS: function 24 -/
noncomputable def f_laws_toIntS.l0 : Nat → (List Int) → Int → (List Int) → Option (List Int)
  | 0, _, _, _ => none
  | n + 1, p43, p44, p45 =>
    bif (decide (p44 < (p43.length : Int))) then
      bif ((decide ((0 : Int) ≤ p44)) && (decide (p44 < (p43.length : Int)))) then
      bif ((decide ((0 : Int) ≤ p44)) && (decide (p44 < (p45.length : Int)))) then
      (some ((p45.set p44.toNat (p43.getD p44.toNat 0)) : List Int)).bind fun z46 =>
      f_laws_toIntS.l0 n p43 (IntKind.wrap .i64 (p44 + (1 : Int))) z46
      else none
      else none
    else
      some p45
noncomputable def f_laws_toIntS (x0 : List Int) : Option (List Int) :=
  bif (decide ((0 : Int) ≤ (x0.length : Int)) && Nat.ble (x0.length : Int).toNat 17592186044416) then
  (f_laws_toIntS.l0 N x0 0 (List.replicate (x0.length : Int).toNat 0)).bind fun r47 =>
  some r47
  else none
noncomputable def C24 : Con := ⟨[(.B, false, [(.sl R0)])], [(false, [(.sl R0)])], [(.sl R0)], [(.sl R0)], fun (p : List Int) => f_laws_toIntS p⟩
noncomputable def f_laws_toIntS.l0.c : LoopCon := ⟨1000, 6, [0, 2, 3, 4], ⟨[(0, .bor none R0 []), (2, .nil (some R0)), (3, .ref 1000 [] none), (4, .int .i64 0)], [(1000, .row R0 [])], 1001⟩, [(.sl R0), (.int .i64), (.sl R0)], [⟨.exit 0, [2, 3], ⟨[(2, .nil (some R0)), (3, .ref 1000 [] none)], [(1000, .row R0 [])], 1001⟩, [(.sl R0)]⟩], fun (p : List Int × Int × List Int) => f_laws_toIntS.l0 N p.1 p.2.1 p.2.2⟩
noncomputable abbrev K24 : Cons := []
noncomputable abbrev L24 : List (Nat × Loops) := [(24, [(3, f_laws_toIntS.l0.c)])]
abbrev Q24 : List (Nat × List (Int × Nat) × Nat) := []
noncomputable abbrev X24 : Nat → Ctx := ctxOf tb K24 L24 Q24
theorem f_laws_toIntS.l0.ok : ∀ n p, (fun (p : List Int × Int × List Int) => f_laws_toIntS.l0 n p.1 p.2.1 p.2.2) p = iterD (roundOf fs X24 6 24 3 false f_laws_toIntS.l0.c) n p :=
  iter_of (l := fun n => fun (p : List Int × Int × List Int) => f_laws_toIntS.l0 n p.1 p.2.1 p.2.2) (fun _ => rfl) (fun n p => by kernel_rfl)
theorem E24 : ∀ x, funRun fs X24 6 24 C24 x = C24.fn x := fun x => by kernel_rfl
theorem B24 : ConB Try.prog 24 C24 := ConB.make FS MIX TY (cons := K24) (L := L24) (ptrs := Q24) trivial trivial ⟨⟨⟨N, fun p => f_laws_toIntS.l0.ok N p⟩, trivial⟩, trivial⟩ rfl rfl E24
theorem S24 : ConS Try.prog 24 C24 := B24.call rfl
/-! laws.toFrame: function 33 -/
noncomputable def f_laws_toFrame (x0 : Int) (x1 : List Int) (x2 : Bool) : Option (Int × List Int × Bool) :=
  (f_laws_toIntS x1).bind fun y48 =>
  some (x0, y48, x2)
noncomputable def C33 : Con := ⟨[(.B, true, [(.int .i64), (.sl R0), .bool])], [(true, [(.int .i64), (.sl R0), .bool])], [(.int .i64), (.sl R0), .bool], [(.int .i64), (.sl R0), .bool], fun (p : Int × List Int × Bool) => f_laws_toFrame p.1 p.2.1 p.2.2⟩
noncomputable abbrev K33 : Cons := [(24, C24)]
noncomputable abbrev L33 : List (Nat × Loops) := []
abbrev Q33 : List (Nat × List (Int × Nat) × Nat) := []
noncomputable abbrev X33 : Nat → Ctx := ctxOf tb K33 L33 Q33
theorem E33 : ∀ x, funRun fs X33 6 33 C33 x = C33.fn x := fun x => by kernel_rfl
theorem B33 : ConB Try.prog 33 C33 := ConB.make FS MIX TY (cons := K33) (L := L33) (ptrs := Q33) ⟨S24, trivial⟩ trivial trivial rfl rfl E33
theorem S33 : ConS Try.prog 33 C33 := B33.call rfl
/-! laws.toFrameS: function 137 -/
noncomputable def f_laws_toFrameS.l0 : Nat → (List (Int × List Int × Bool)) → Int → (List (Int × List Int × Bool)) → Option ((List (Int × List Int × Bool)))
  | 0, _, _, _ => none
  | n + 1, p49, p50, p51 =>
    bif (decide (p50 < (p49.length : Int))) then
      bif ((decide ((0 : Int) ≤ p50)) && (decide (p50 < (p49.length : Int)))) then
      (f_laws_toFrame ((p49.getD p50.toNat (0, [], false)).1) ((p49.getD p50.toNat (0, [], false)).2.1) ((p49.getD p50.toNat (0, [], false)).2.2)).bind fun y52 =>
      bif ((decide ((0 : Int) ≤ p50)) && (decide (p50 < (p51.length : Int)))) then
      (some ((p51.set p50.toNat (y52.1, y52.2.1, y52.2.2)) : List (Int × List Int × Bool))).bind fun z53 =>
      f_laws_toFrameS.l0 n p49 (IntKind.wrap .i64 (p50 + (1 : Int))) z53
      else none
      else none
    else
      some p51
noncomputable def f_laws_toFrameS (x0 : List (Int × List Int × Bool)) : Option ((List (Int × List Int × Bool))) :=
  bif (decide ((0 : Int) ≤ (x0.length : Int)) && Nat.ble (x0.length : Int).toNat 3518437208883) then
  (f_laws_toFrameS.l0 N x0 0 (List.replicate (x0.length : Int).toNat (0, [], false))).bind fun r54 =>
  some r54
  else none
noncomputable def C137 : Con := ⟨[(.B, false, [(.sl R1)])], [(false, [(.sl R1)])], [(.sl R1)], [(.sl R1)], fun (p : (List (Int × List Int × Bool))) => f_laws_toFrameS p⟩
noncomputable def f_laws_toFrameS.l0.c : LoopCon := ⟨1000, 6, [0, 2, 3, 4], ⟨[(0, .bor none R1 []), (2, .nil (some R1)), (3, .ref 1000 [] none), (4, .int .i64 0)], [(1000, .row R1 [])], 1001⟩, [(.sl R1), (.int .i64), (.sl R1)], [⟨.exit 0, [2, 3], ⟨[(2, .nil (some R1)), (3, .ref 1000 [] none)], [(1000, .row R1 [])], 1001⟩, [(.sl R1)]⟩], fun (p : (List (Int × List Int × Bool)) × Int × (List (Int × List Int × Bool))) => f_laws_toFrameS.l0 N p.1 p.2.1 p.2.2⟩
noncomputable abbrev K137 : Cons := [(33, C33)]
noncomputable abbrev L137 : List (Nat × Loops) := [(137, [(3, f_laws_toFrameS.l0.c)])]
abbrev Q137 : List (Nat × List (Int × Nat) × Nat) := []
noncomputable abbrev X137 : Nat → Ctx := ctxOf tb K137 L137 Q137
theorem f_laws_toFrameS.l0.ok : ∀ n p, (fun (p : (List (Int × List Int × Bool)) × Int × (List (Int × List Int × Bool))) => f_laws_toFrameS.l0 n p.1 p.2.1 p.2.2) p = iterD (roundOf fs X137 6 137 3 false f_laws_toFrameS.l0.c) n p :=
  iter_of (l := fun n => fun (p : (List (Int × List Int × Bool)) × Int × (List (Int × List Int × Bool))) => f_laws_toFrameS.l0 n p.1 p.2.1 p.2.2) (fun _ => rfl) (fun n p => by kernel_rfl)
theorem E137 : ∀ x, funRun fs X137 6 137 C137 x = C137.fn x := fun x => by kernel_rfl
theorem B137 : ConB Try.prog 137 C137 := ConB.make FS MIX TY (cons := K137) (L := L137) (ptrs := Q137) ⟨S33, trivial⟩ trivial ⟨⟨⟨N, fun p => f_laws_toFrameS.l0.ok N p⟩, trivial⟩, trivial⟩ rfl rfl E137
theorem S137 : ConS Try.prog 137 C137 := B137.call rfl
/-! laws.toBoolS: function 185 -/
noncomputable def f_laws_toBoolS.l0 : Nat → (List Bool) → Int → (List Bool) → Option (List Bool)
  | 0, _, _, _ => none
  | n + 1, p55, p56, p57 =>
    bif (decide (p56 < (p55.length : Int))) then
      bif ((decide ((0 : Int) ≤ p56)) && (decide (p56 < (p55.length : Int)))) then
      bif ((decide ((0 : Int) ≤ p56)) && (decide (p56 < (p57.length : Int)))) then
      (some ((p57.set p56.toNat (p55.getD p56.toNat false)) : List Bool)).bind fun z58 =>
      f_laws_toBoolS.l0 n p55 (IntKind.wrap .i64 (p56 + (1 : Int))) z58
      else none
      else none
    else
      some p57
noncomputable def f_laws_toBoolS (x0 : List Bool) : Option (List Bool) :=
  bif (decide ((0 : Int) ≤ (x0.length : Int)) && Nat.ble (x0.length : Int).toNat 140737488355328) then
  (f_laws_toBoolS.l0 N x0 0 (List.replicate (x0.length : Int).toNat false)).bind fun r59 =>
  some r59
  else none
noncomputable def C185 : Con := ⟨[(.B, false, [(.sl R2)])], [(false, [(.sl R2)])], [(.sl R2)], [(.sl R2)], fun (p : List Bool) => f_laws_toBoolS p⟩
noncomputable def f_laws_toBoolS.l0.c : LoopCon := ⟨1000, 6, [0, 2, 3, 4], ⟨[(0, .bor none R2 []), (2, .nil (some R2)), (3, .ref 1000 [] none), (4, .int .i64 0)], [(1000, .row R2 [])], 1001⟩, [(.sl R2), (.int .i64), (.sl R2)], [⟨.exit 0, [2, 3], ⟨[(2, .nil (some R2)), (3, .ref 1000 [] none)], [(1000, .row R2 [])], 1001⟩, [(.sl R2)]⟩], fun (p : List Bool × Int × List Bool) => f_laws_toBoolS.l0 N p.1 p.2.1 p.2.2⟩
noncomputable abbrev K185 : Cons := []
noncomputable abbrev L185 : List (Nat × Loops) := [(185, [(3, f_laws_toBoolS.l0.c)])]
abbrev Q185 : List (Nat × List (Int × Nat) × Nat) := []
noncomputable abbrev X185 : Nat → Ctx := ctxOf tb K185 L185 Q185
theorem f_laws_toBoolS.l0.ok : ∀ n p, (fun (p : List Bool × Int × List Bool) => f_laws_toBoolS.l0 n p.1 p.2.1 p.2.2) p = iterD (roundOf fs X185 6 185 3 false f_laws_toBoolS.l0.c) n p :=
  iter_of (l := fun n => fun (p : List Bool × Int × List Bool) => f_laws_toBoolS.l0 n p.1 p.2.1 p.2.2) (fun _ => rfl) (fun n p => by kernel_rfl)
theorem E185 : ∀ x, funRun fs X185 6 185 C185 x = C185.fn x := fun x => by kernel_rfl
theorem B185 : ConB Try.prog 185 C185 := ConB.make FS MIX TY (cons := K185) (L := L185) (ptrs := Q185) trivial trivial ⟨⟨⟨N, fun p => f_laws_toBoolS.l0.ok N p⟩, trivial⟩, trivial⟩ rfl rfl E185
theorem S185 : ConS Try.prog 185 C185 := B185.call rfl
/-! laws.toWait: function 186 -/
noncomputable def f_laws_toWait (x0 : Int) (x1 : Bool) : Option (Int × Bool) :=
  some (x0, x1)
noncomputable def C186 : Con := ⟨[(.B, true, [(.int .i64), .bool])], [(true, [(.int .i64), .bool])], [(.int .i64), .bool], [(.int .i64), .bool], fun (p : Int × Bool) => f_laws_toWait p.1 p.2⟩
noncomputable abbrev K186 : Cons := []
noncomputable abbrev L186 : List (Nat × Loops) := []
abbrev Q186 : List (Nat × List (Int × Nat) × Nat) := []
noncomputable abbrev X186 : Nat → Ctx := ctxOf tb K186 L186 Q186
theorem E186 : ∀ x, funRun fs X186 6 186 C186 x = C186.fn x := fun x => by kernel_rfl
theorem B186 : ConB Try.prog 186 C186 := ConB.make FS MIX TY (cons := K186) (L := L186) (ptrs := Q186) trivial trivial trivial rfl rfl E186
theorem S186 : ConS Try.prog 186 C186 := B186.call rfl
/-! laws.toWaitS: function 187 -/
noncomputable def f_laws_toWaitS.l0 : Nat → (List (Int × Bool)) → Int → (List (Int × Bool)) → Option ((List (Int × Bool)))
  | 0, _, _, _ => none
  | n + 1, p60, p61, p62 =>
    bif (decide (p61 < (p60.length : Int))) then
      bif ((decide ((0 : Int) ≤ p61)) && (decide (p61 < (p60.length : Int)))) then
      (f_laws_toWait ((p60.getD p61.toNat (0, false)).1) ((p60.getD p61.toNat (0, false)).2)).bind fun y63 =>
      bif ((decide ((0 : Int) ≤ p61)) && (decide (p61 < (p62.length : Int)))) then
      (some ((p62.set p61.toNat (y63.1, y63.2)) : List (Int × Bool))).bind fun z64 =>
      f_laws_toWaitS.l0 n p60 (IntKind.wrap .i64 (p61 + (1 : Int))) z64
      else none
      else none
    else
      some p62
noncomputable def f_laws_toWaitS (x0 : List (Int × Bool)) : Option ((List (Int × Bool))) :=
  bif (decide ((0 : Int) ≤ (x0.length : Int)) && Nat.ble (x0.length : Int).toNat 8796093022208) then
  (f_laws_toWaitS.l0 N x0 0 (List.replicate (x0.length : Int).toNat (0, false))).bind fun r65 =>
  some r65
  else none
noncomputable def C187 : Con := ⟨[(.B, false, [(.sl R3)])], [(false, [(.sl R3)])], [(.sl R3)], [(.sl R3)], fun (p : (List (Int × Bool))) => f_laws_toWaitS p⟩
noncomputable def f_laws_toWaitS.l0.c : LoopCon := ⟨1000, 6, [0, 2, 3, 4], ⟨[(0, .bor none R3 []), (2, .nil (some R3)), (3, .ref 1000 [] none), (4, .int .i64 0)], [(1000, .row R3 [])], 1001⟩, [(.sl R3), (.int .i64), (.sl R3)], [⟨.exit 0, [2, 3], ⟨[(2, .nil (some R3)), (3, .ref 1000 [] none)], [(1000, .row R3 [])], 1001⟩, [(.sl R3)]⟩], fun (p : (List (Int × Bool)) × Int × (List (Int × Bool))) => f_laws_toWaitS.l0 N p.1 p.2.1 p.2.2⟩
noncomputable abbrev K187 : Cons := [(186, C186)]
noncomputable abbrev L187 : List (Nat × Loops) := [(187, [(3, f_laws_toWaitS.l0.c)])]
abbrev Q187 : List (Nat × List (Int × Nat) × Nat) := []
noncomputable abbrev X187 : Nat → Ctx := ctxOf tb K187 L187 Q187
theorem f_laws_toWaitS.l0.ok : ∀ n p, (fun (p : (List (Int × Bool)) × Int × (List (Int × Bool))) => f_laws_toWaitS.l0 n p.1 p.2.1 p.2.2) p = iterD (roundOf fs X187 6 187 3 false f_laws_toWaitS.l0.c) n p :=
  iter_of (l := fun n => fun (p : (List (Int × Bool)) × Int × (List (Int × Bool))) => f_laws_toWaitS.l0 n p.1 p.2.1 p.2.2) (fun _ => rfl) (fun n p => by kernel_rfl)
theorem E187 : ∀ x, funRun fs X187 6 187 C187 x = C187.fn x := fun x => by kernel_rfl
theorem B187 : ConB Try.prog 187 C187 := ConB.make FS MIX TY (cons := K187) (L := L187) (ptrs := Q187) ⟨S186, trivial⟩ trivial ⟨⟨⟨N, fun p => f_laws_toWaitS.l0.ok N p⟩, trivial⟩, trivial⟩ rfl rfl E187
theorem S187 : ConS Try.prog 187 C187 := B187.call rfl
/-! laws.toHome: function 166 -/
noncomputable def f_laws_toHome (x0 : List Int) (x1 : Int) (x2 : List Bool) (x3 : Bool) (x4 : Int) (x5 : Bool) (x6 : Int) (x7 : List (Int × Bool)) : Option (List Int × Int × List Bool × Bool × Int × Bool × Int × (List (Int × Bool))) :=
  (f_laws_toIntS x0).bind fun y66 =>
  (f_laws_toBoolS x2).bind fun y67 =>
  (f_laws_toWait x4 x5).bind fun y68 =>
  (f_laws_toWaitS x7).bind fun y69 =>
  some (y66, x1, y67, x3, y68.1, y68.2, x6, y69)
noncomputable def C166 : Con := ⟨[(.B, true, [(.sl R0), (.int .i64), (.sl R2), .bool, (.int .i64), .bool, (.int .i64), (.sl R3)])], [(true, [(.sl R0), (.int .i64), (.sl R2), .bool, (.int .i64), .bool, (.int .i64), (.sl R3)])], [(.sl R0), (.int .i64), (.sl R2), .bool, (.int .i64), .bool, (.int .i64), (.sl R3)], [(.sl R0), (.int .i64), (.sl R2), .bool, (.int .i64), .bool, (.int .i64), (.sl R3)], fun (p : List Int × Int × List Bool × Bool × Int × Bool × Int × (List (Int × Bool))) => f_laws_toHome p.1 p.2.1 p.2.2.1 p.2.2.2.1 p.2.2.2.2.1 p.2.2.2.2.2.1 p.2.2.2.2.2.2.1 p.2.2.2.2.2.2.2⟩
noncomputable abbrev K166 : Cons := [(24, C24), (185, C185), (186, C186), (187, C187)]
noncomputable abbrev L166 : List (Nat × Loops) := []
abbrev Q166 : List (Nat × List (Int × Nat) × Nat) := []
noncomputable abbrev X166 : Nat → Ctx := ctxOf tb K166 L166 Q166
theorem E166 : ∀ x, funRun fs X166 6 166 C166 x = C166.fn x := fun x => by kernel_rfl
theorem B166 : ConB Try.prog 166 C166 := ConB.make FS MIX TY (cons := K166) (L := L166) (ptrs := Q166) ⟨S24, S185, S186, S187, trivial⟩ trivial trivial rfl rfl E166
theorem S166 : ConS Try.prog 166 C166 := B166.call rfl
/-! laws.toHomeS: function 138 -/
noncomputable def f_laws_toHomeS.l0 : Nat → (List (List Int × Int × List Bool × Bool × Int × Bool × Int × (List (Int × Bool)))) → Int → (List (List Int × Int × List Bool × Bool × Int × Bool × Int × (List (Int × Bool)))) → Option ((List (List Int × Int × List Bool × Bool × Int × Bool × Int × (List (Int × Bool)))))
  | 0, _, _, _ => none
  | n + 1, p70, p71, p72 =>
    bif (decide (p71 < (p70.length : Int))) then
      bif ((decide ((0 : Int) ≤ p71)) && (decide (p71 < (p70.length : Int)))) then
      (f_laws_toHome ((p70.getD p71.toNat ([], 0, [], false, 0, false, 0, [])).1) ((p70.getD p71.toNat ([], 0, [], false, 0, false, 0, [])).2.1) ((p70.getD p71.toNat ([], 0, [], false, 0, false, 0, [])).2.2.1) ((p70.getD p71.toNat ([], 0, [], false, 0, false, 0, [])).2.2.2.1) ((p70.getD p71.toNat ([], 0, [], false, 0, false, 0, [])).2.2.2.2.1) ((p70.getD p71.toNat ([], 0, [], false, 0, false, 0, [])).2.2.2.2.2.1) ((p70.getD p71.toNat ([], 0, [], false, 0, false, 0, [])).2.2.2.2.2.2.1) ((p70.getD p71.toNat ([], 0, [], false, 0, false, 0, [])).2.2.2.2.2.2.2)).bind fun y73 =>
      bif ((decide ((0 : Int) ≤ p71)) && (decide (p71 < (p72.length : Int)))) then
      (some ((p72.set p71.toNat (y73.1, y73.2.1, y73.2.2.1, y73.2.2.2.1, y73.2.2.2.2.1, y73.2.2.2.2.2.1, y73.2.2.2.2.2.2.1, y73.2.2.2.2.2.2.2)) : List (List Int × Int × List Bool × Bool × Int × Bool × Int × (List (Int × Bool))))).bind fun z74 =>
      f_laws_toHomeS.l0 n p70 (IntKind.wrap .i64 (p71 + (1 : Int))) z74
      else none
      else none
    else
      some p72
noncomputable def f_laws_toHomeS (x0 : List (List Int × Int × List Bool × Bool × Int × Bool × Int × (List (Int × Bool)))) : Option ((List (List Int × Int × List Bool × Bool × Int × Bool × Int × (List (Int × Bool))))) :=
  bif (decide ((0 : Int) ≤ (x0.length : Int)) && Nat.ble (x0.length : Int).toNat 1256584717458) then
  (f_laws_toHomeS.l0 N x0 0 (List.replicate (x0.length : Int).toNat ([], 0, [], false, 0, false, 0, []))).bind fun r75 =>
  some r75
  else none
noncomputable def C138 : Con := ⟨[(.B, false, [(.sl R4)])], [(false, [(.sl R4)])], [(.sl R4)], [(.sl R4)], fun (p : (List (List Int × Int × List Bool × Bool × Int × Bool × Int × (List (Int × Bool))))) => f_laws_toHomeS p⟩
noncomputable def f_laws_toHomeS.l0.c : LoopCon := ⟨1000, 6, [0, 2, 3, 4], ⟨[(0, .bor none R4 []), (2, .nil (some R4)), (3, .ref 1000 [] none), (4, .int .i64 0)], [(1000, .row R4 [])], 1001⟩, [(.sl R4), (.int .i64), (.sl R4)], [⟨.exit 0, [2, 3], ⟨[(2, .nil (some R4)), (3, .ref 1000 [] none)], [(1000, .row R4 [])], 1001⟩, [(.sl R4)]⟩], fun (p : (List (List Int × Int × List Bool × Bool × Int × Bool × Int × (List (Int × Bool)))) × Int × (List (List Int × Int × List Bool × Bool × Int × Bool × Int × (List (Int × Bool))))) => f_laws_toHomeS.l0 N p.1 p.2.1 p.2.2⟩
noncomputable abbrev K138 : Cons := [(166, C166)]
noncomputable abbrev L138 : List (Nat × Loops) := [(138, [(3, f_laws_toHomeS.l0.c)])]
abbrev Q138 : List (Nat × List (Int × Nat) × Nat) := []
noncomputable abbrev X138 : Nat → Ctx := ctxOf tb K138 L138 Q138
theorem f_laws_toHomeS.l0.ok : ∀ n p, (fun (p : (List (List Int × Int × List Bool × Bool × Int × Bool × Int × (List (Int × Bool)))) × Int × (List (List Int × Int × List Bool × Bool × Int × Bool × Int × (List (Int × Bool))))) => f_laws_toHomeS.l0 n p.1 p.2.1 p.2.2) p = iterD (roundOf fs X138 6 138 3 false f_laws_toHomeS.l0.c) n p :=
  iter_of (l := fun n => fun (p : (List (List Int × Int × List Bool × Bool × Int × Bool × Int × (List (Int × Bool)))) × Int × (List (List Int × Int × List Bool × Bool × Int × Bool × Int × (List (Int × Bool))))) => f_laws_toHomeS.l0 n p.1 p.2.1 p.2.2) (fun _ => rfl) (fun n p => by kernel_rfl)
theorem E138 : ∀ x, funRun fs X138 6 138 C138 x = C138.fn x := fun x => by kernel_rfl
theorem B138 : ConB Try.prog 138 C138 := ConB.make FS MIX TY (cons := K138) (L := L138) (ptrs := Q138) ⟨S166, trivial⟩ trivial ⟨⟨⟨N, fun p => f_laws_toHomeS.l0.ok N p⟩, trivial⟩, trivial⟩ rfl rfl E138
theorem S138 : ConS Try.prog 138 C138 := B138.call rfl
/-! laws.toMsg: function 16 -/
noncomputable def f_laws_toMsg (x0 : Int) (x1 : Int) (x2 : Bool) (x3 : List Int) : Option (Int × Int × Bool × List Int) :=
  (f_laws_toIntS x3).bind fun y76 =>
  some (x0, x1, x2, y76)
noncomputable def C16 : Con := ⟨[(.B, true, [(.int .i64), (.int .i64), .bool, (.sl R0)])], [(true, [(.int .i64), (.int .i64), .bool, (.sl R0)])], [(.int .i64), (.int .i64), .bool, (.sl R0)], [(.int .i64), (.int .i64), .bool, (.sl R0)], fun (p : Int × Int × Bool × List Int) => f_laws_toMsg p.1 p.2.1 p.2.2.1 p.2.2.2⟩
noncomputable abbrev K16 : Cons := [(24, C24)]
noncomputable abbrev L16 : List (Nat × Loops) := []
abbrev Q16 : List (Nat × List (Int × Nat) × Nat) := []
noncomputable abbrev X16 : Nat → Ctx := ctxOf tb K16 L16 Q16
theorem E16 : ∀ x, funRun fs X16 6 16 C16 x = C16.fn x := fun x => by kernel_rfl
theorem B16 : ConB Try.prog 16 C16 := ConB.make FS MIX TY (cons := K16) (L := L16) (ptrs := Q16) ⟨S24, trivial⟩ trivial trivial rfl rfl E16
theorem S16 : ConS Try.prog 16 C16 := B16.call rfl
/-! laws.toMsgS: function 188 -/
noncomputable def f_laws_toMsgS.l0 : Nat → (List (Int × Int × Bool × List Int)) → Int → (List (Int × Int × Bool × List Int)) → Option ((List (Int × Int × Bool × List Int)))
  | 0, _, _, _ => none
  | n + 1, p77, p78, p79 =>
    bif (decide (p78 < (p77.length : Int))) then
      bif ((decide ((0 : Int) ≤ p78)) && (decide (p78 < (p77.length : Int)))) then
      (f_laws_toMsg ((p77.getD p78.toNat (0, 0, false, [])).1) ((p77.getD p78.toNat (0, 0, false, [])).2.1) ((p77.getD p78.toNat (0, 0, false, [])).2.2.1) ((p77.getD p78.toNat (0, 0, false, [])).2.2.2)).bind fun y80 =>
      bif ((decide ((0 : Int) ≤ p78)) && (decide (p78 < (p79.length : Int)))) then
      (some ((p79.set p78.toNat (y80.1, y80.2.1, y80.2.2.1, y80.2.2.2)) : List (Int × Int × Bool × List Int))).bind fun z81 =>
      f_laws_toMsgS.l0 n p77 (IntKind.wrap .i64 (p78 + (1 : Int))) z81
      else none
      else none
    else
      some p79
noncomputable def f_laws_toMsgS (x0 : List (Int × Int × Bool × List Int)) : Option ((List (Int × Int × Bool × List Int))) :=
  bif (decide ((0 : Int) ≤ (x0.length : Int)) && Nat.ble (x0.length : Int).toNat 2932031007402) then
  (f_laws_toMsgS.l0 N x0 0 (List.replicate (x0.length : Int).toNat (0, 0, false, []))).bind fun r82 =>
  some r82
  else none
noncomputable def C188 : Con := ⟨[(.B, false, [(.sl R5)])], [(false, [(.sl R5)])], [(.sl R5)], [(.sl R5)], fun (p : (List (Int × Int × Bool × List Int))) => f_laws_toMsgS p⟩
noncomputable def f_laws_toMsgS.l0.c : LoopCon := ⟨1000, 6, [0, 2, 3, 4], ⟨[(0, .bor none R5 []), (2, .nil (some R5)), (3, .ref 1000 [] none), (4, .int .i64 0)], [(1000, .row R5 [])], 1001⟩, [(.sl R5), (.int .i64), (.sl R5)], [⟨.exit 0, [2, 3], ⟨[(2, .nil (some R5)), (3, .ref 1000 [] none)], [(1000, .row R5 [])], 1001⟩, [(.sl R5)]⟩], fun (p : (List (Int × Int × Bool × List Int)) × Int × (List (Int × Int × Bool × List Int))) => f_laws_toMsgS.l0 N p.1 p.2.1 p.2.2⟩
noncomputable abbrev K188 : Cons := [(16, C16)]
noncomputable abbrev L188 : List (Nat × Loops) := [(188, [(3, f_laws_toMsgS.l0.c)])]
abbrev Q188 : List (Nat × List (Int × Nat) × Nat) := []
noncomputable abbrev X188 : Nat → Ctx := ctxOf tb K188 L188 Q188
theorem f_laws_toMsgS.l0.ok : ∀ n p, (fun (p : (List (Int × Int × Bool × List Int)) × Int × (List (Int × Int × Bool × List Int))) => f_laws_toMsgS.l0 n p.1 p.2.1 p.2.2) p = iterD (roundOf fs X188 6 188 3 false f_laws_toMsgS.l0.c) n p :=
  iter_of (l := fun n => fun (p : (List (Int × Int × Bool × List Int)) × Int × (List (Int × Int × Bool × List Int))) => f_laws_toMsgS.l0 n p.1 p.2.1 p.2.2) (fun _ => rfl) (fun n p => by kernel_rfl)
theorem E188 : ∀ x, funRun fs X188 6 188 C188 x = C188.fn x := fun x => by kernel_rfl
theorem B188 : ConB Try.prog 188 C188 := ConB.make FS MIX TY (cons := K188) (L := L188) (ptrs := Q188) ⟨S16, trivial⟩ trivial ⟨⟨⟨N, fun p => f_laws_toMsgS.l0.ok N p⟩, trivial⟩, trivial⟩ rfl rfl E188
theorem S188 : ConS Try.prog 188 C188 := B188.call rfl
/-! laws.toSender: function 167 -/
noncomputable def f_laws_toSender (x0 : Int) (x1 : List (Int × Int × Bool × List Int)) : Option (Int × (List (Int × Int × Bool × List Int))) :=
  (f_laws_toMsgS x1).bind fun y83 =>
  some (x0, y83)
noncomputable def C167 : Con := ⟨[(.B, true, [(.int .i64), (.sl R5)])], [(true, [(.int .i64), (.sl R5)])], [(.int .i64), (.sl R5)], [(.int .i64), (.sl R5)], fun (p : Int × (List (Int × Int × Bool × List Int))) => f_laws_toSender p.1 p.2⟩
noncomputable abbrev K167 : Cons := [(188, C188)]
noncomputable abbrev L167 : List (Nat × Loops) := []
abbrev Q167 : List (Nat × List (Int × Nat) × Nat) := []
noncomputable abbrev X167 : Nat → Ctx := ctxOf tb K167 L167 Q167
theorem E167 : ∀ x, funRun fs X167 6 167 C167 x = C167.fn x := fun x => by kernel_rfl
theorem B167 : ConB Try.prog 167 C167 := ConB.make FS MIX TY (cons := K167) (L := L167) (ptrs := Q167) ⟨S188, trivial⟩ trivial trivial rfl rfl E167
theorem S167 : ConS Try.prog 167 C167 := B167.call rfl
/-! laws.toSenderS: function 139 -/
noncomputable def f_laws_toSenderS.l0 : Nat → (List (Int × (List (Int × Int × Bool × List Int)))) → Int → (List (Int × (List (Int × Int × Bool × List Int)))) → Option ((List (Int × (List (Int × Int × Bool × List Int)))))
  | 0, _, _, _ => none
  | n + 1, p84, p85, p86 =>
    bif (decide (p85 < (p84.length : Int))) then
      bif ((decide ((0 : Int) ≤ p85)) && (decide (p85 < (p84.length : Int)))) then
      (f_laws_toSender ((p84.getD p85.toNat (0, [])).1) ((p84.getD p85.toNat (0, [])).2)).bind fun y87 =>
      bif ((decide ((0 : Int) ≤ p85)) && (decide (p85 < (p86.length : Int)))) then
      (some ((p86.set p85.toNat (y87.1, y87.2)) : List (Int × (List (Int × Int × Bool × List Int))))).bind fun z88 =>
      f_laws_toSenderS.l0 n p84 (IntKind.wrap .i64 (p85 + (1 : Int))) z88
      else none
      else none
    else
      some p86
noncomputable def f_laws_toSenderS (x0 : List (Int × (List (Int × Int × Bool × List Int)))) : Option ((List (Int × (List (Int × Int × Bool × List Int))))) :=
  bif (decide ((0 : Int) ≤ (x0.length : Int)) && Nat.ble (x0.length : Int).toNat 4398046511104) then
  (f_laws_toSenderS.l0 N x0 0 (List.replicate (x0.length : Int).toNat (0, []))).bind fun r89 =>
  some r89
  else none
noncomputable def C139 : Con := ⟨[(.B, false, [(.sl R6)])], [(false, [(.sl R6)])], [(.sl R6)], [(.sl R6)], fun (p : (List (Int × (List (Int × Int × Bool × List Int))))) => f_laws_toSenderS p⟩
noncomputable def f_laws_toSenderS.l0.c : LoopCon := ⟨1000, 6, [0, 2, 3, 4], ⟨[(0, .bor none R6 []), (2, .nil (some R6)), (3, .ref 1000 [] none), (4, .int .i64 0)], [(1000, .row R6 [])], 1001⟩, [(.sl R6), (.int .i64), (.sl R6)], [⟨.exit 0, [2, 3], ⟨[(2, .nil (some R6)), (3, .ref 1000 [] none)], [(1000, .row R6 [])], 1001⟩, [(.sl R6)]⟩], fun (p : (List (Int × (List (Int × Int × Bool × List Int)))) × Int × (List (Int × (List (Int × Int × Bool × List Int))))) => f_laws_toSenderS.l0 N p.1 p.2.1 p.2.2⟩
noncomputable abbrev K139 : Cons := [(167, C167)]
noncomputable abbrev L139 : List (Nat × Loops) := [(139, [(3, f_laws_toSenderS.l0.c)])]
abbrev Q139 : List (Nat × List (Int × Nat) × Nat) := []
noncomputable abbrev X139 : Nat → Ctx := ctxOf tb K139 L139 Q139
theorem f_laws_toSenderS.l0.ok : ∀ n p, (fun (p : (List (Int × (List (Int × Int × Bool × List Int)))) × Int × (List (Int × (List (Int × Int × Bool × List Int))))) => f_laws_toSenderS.l0 n p.1 p.2.1 p.2.2) p = iterD (roundOf fs X139 6 139 3 false f_laws_toSenderS.l0.c) n p :=
  iter_of (l := fun n => fun (p : (List (Int × (List (Int × Int × Bool × List Int)))) × Int × (List (Int × (List (Int × Int × Bool × List Int))))) => f_laws_toSenderS.l0 n p.1 p.2.1 p.2.2) (fun _ => rfl) (fun n p => by kernel_rfl)
theorem E139 : ∀ x, funRun fs X139 6 139 C139 x = C139.fn x := fun x => by kernel_rfl
theorem B139 : ConB Try.prog 139 C139 := ConB.make FS MIX TY (cons := K139) (L := L139) (ptrs := Q139) ⟨S167, trivial⟩ trivial ⟨⟨⟨N, fun p => f_laws_toSenderS.l0.ok N p⟩, trivial⟩, trivial⟩ rfl rfl E139
theorem S139 : ConS Try.prog 139 C139 := B139.call rfl
/-! laws.toReceiver: function 168 -/
noncomputable def f_laws_toReceiver (x0 : Int) : Option (Int) :=
  some x0
noncomputable def C168 : Con := ⟨[(.B, true, [(.int .i64)])], [(true, [(.int .i64)])], [(.int .i64)], [(.int .i64)], fun (p : Int) => f_laws_toReceiver p⟩
noncomputable abbrev K168 : Cons := []
noncomputable abbrev L168 : List (Nat × Loops) := []
abbrev Q168 : List (Nat × List (Int × Nat) × Nat) := []
noncomputable abbrev X168 : Nat → Ctx := ctxOf tb K168 L168 Q168
theorem E168 : ∀ x, funRun fs X168 6 168 C168 x = C168.fn x := fun x => by kernel_rfl
theorem B168 : ConB Try.prog 168 C168 := ConB.make FS MIX TY (cons := K168) (L := L168) (ptrs := Q168) trivial trivial trivial rfl rfl E168
theorem S168 : ConS Try.prog 168 C168 := B168.call rfl
/-! laws.toReceiverS: function 140 -/
noncomputable def f_laws_toReceiverS.l0 : Nat → (List Int) → Int → (List Int) → Option (List Int)
  | 0, _, _, _ => none
  | n + 1, p90, p91, p92 =>
    bif (decide (p91 < (p90.length : Int))) then
      bif ((decide ((0 : Int) ≤ p91)) && (decide (p91 < (p90.length : Int)))) then
      (f_laws_toReceiver (p90.getD p91.toNat 0)).bind fun y93 =>
      bif ((decide ((0 : Int) ≤ p91)) && (decide (p91 < (p92.length : Int)))) then
      (some ((p92.set p91.toNat y93) : List Int)).bind fun z94 =>
      f_laws_toReceiverS.l0 n p90 (IntKind.wrap .i64 (p91 + (1 : Int))) z94
      else none
      else none
    else
      some p92
noncomputable def f_laws_toReceiverS (x0 : List Int) : Option (List Int) :=
  bif (decide ((0 : Int) ≤ (x0.length : Int)) && Nat.ble (x0.length : Int).toNat 17592186044416) then
  (f_laws_toReceiverS.l0 N x0 0 (List.replicate (x0.length : Int).toNat 0)).bind fun r95 =>
  some r95
  else none
noncomputable def C140 : Con := ⟨[(.B, false, [(.sl R0)])], [(false, [(.sl R0)])], [(.sl R0)], [(.sl R0)], fun (p : List Int) => f_laws_toReceiverS p⟩
noncomputable def f_laws_toReceiverS.l0.c : LoopCon := ⟨1000, 6, [0, 2, 3, 4], ⟨[(0, .bor none R0 []), (2, .nil (some R0)), (3, .ref 1000 [] none), (4, .int .i64 0)], [(1000, .row R0 [])], 1001⟩, [(.sl R0), (.int .i64), (.sl R0)], [⟨.exit 0, [2, 3], ⟨[(2, .nil (some R0)), (3, .ref 1000 [] none)], [(1000, .row R0 [])], 1001⟩, [(.sl R0)]⟩], fun (p : List Int × Int × List Int) => f_laws_toReceiverS.l0 N p.1 p.2.1 p.2.2⟩
noncomputable abbrev K140 : Cons := [(168, C168)]
noncomputable abbrev L140 : List (Nat × Loops) := [(140, [(3, f_laws_toReceiverS.l0.c)])]
abbrev Q140 : List (Nat × List (Int × Nat) × Nat) := []
noncomputable abbrev X140 : Nat → Ctx := ctxOf tb K140 L140 Q140
theorem f_laws_toReceiverS.l0.ok : ∀ n p, (fun (p : List Int × Int × List Int) => f_laws_toReceiverS.l0 n p.1 p.2.1 p.2.2) p = iterD (roundOf fs X140 6 140 3 false f_laws_toReceiverS.l0.c) n p :=
  iter_of (l := fun n => fun (p : List Int × Int × List Int) => f_laws_toReceiverS.l0 n p.1 p.2.1 p.2.2) (fun _ => rfl) (fun n p => by kernel_rfl)
theorem E140 : ∀ x, funRun fs X140 6 140 C140 x = C140.fn x := fun x => by kernel_rfl
theorem B140 : ConB Try.prog 140 C140 := ConB.make FS MIX TY (cons := K140) (L := L140) (ptrs := Q140) ⟨S168, trivial⟩ trivial ⟨⟨⟨N, fun p => f_laws_toReceiverS.l0.ok N p⟩, trivial⟩, trivial⟩ rfl rfl E140
theorem S140 : ConS Try.prog 140 C140 := B140.call rfl
/-! laws.toNode: function 87 -/
noncomputable def f_laws_toNode (x0 : Int) (x1 : List (Int × List Int × Bool)) (x2 : List (List Int × Int × List Bool × Bool × Int × Bool × Int × (List (Int × Bool)))) (x3 : List (Int × (List (Int × Int × Bool × List Int)))) (x4 : List Int) : Option (Int × (List (Int × List Int × Bool)) × (List (List Int × Int × List Bool × Bool × Int × Bool × Int × (List (Int × Bool)))) × (List (Int × (List (Int × Int × Bool × List Int)))) × List Int) :=
  (f_laws_toFrameS x1).bind fun y96 =>
  (f_laws_toHomeS x2).bind fun y97 =>
  (f_laws_toSenderS x3).bind fun y98 =>
  (f_laws_toReceiverS x4).bind fun y99 =>
  some (x0, y96, y97, y98, y99)
noncomputable def C87 : Con := ⟨[(.B, true, [(.int .i64), (.sl R1), (.sl R4), (.sl R6), (.sl R0)])], [(true, [(.int .i64), (.sl R1), (.sl R4), (.sl R6), (.sl R0)])], [(.int .i64), (.sl R1), (.sl R4), (.sl R6), (.sl R0)], [(.int .i64), (.sl R1), (.sl R4), (.sl R6), (.sl R0)], fun (p : Int × (List (Int × List Int × Bool)) × (List (List Int × Int × List Bool × Bool × Int × Bool × Int × (List (Int × Bool)))) × (List (Int × (List (Int × Int × Bool × List Int)))) × List Int) => f_laws_toNode p.1 p.2.1 p.2.2.1 p.2.2.2.1 p.2.2.2.2⟩
noncomputable abbrev K87 : Cons := [(137, C137), (138, C138), (139, C139), (140, C140)]
noncomputable abbrev L87 : List (Nat × Loops) := []
abbrev Q87 : List (Nat × List (Int × Nat) × Nat) := []
noncomputable abbrev X87 : Nat → Ctx := ctxOf tb K87 L87 Q87
theorem E87 : ∀ x, funRun fs X87 6 87 C87 x = C87.fn x := fun x => by kernel_rfl
theorem B87 : ConB Try.prog 87 C87 := ConB.make FS MIX TY (cons := K87) (L := L87) (ptrs := Q87) ⟨S137, S138, S139, S140, trivial⟩ trivial trivial rfl rfl E87
theorem S87 : ConS Try.prog 87 C87 := B87.call rfl
/-! spec.l1In: function 94 -/
noncomputable def f_spec_l1In (x0 : Int) (x1 : Int) (x2 : Int) : Option (Bool) :=
  bif (decide (x1 ≤ x0)) then
    some (decide (x0 ≤ x2))
  else
    some false
noncomputable def C94 : Con := ⟨[(.B, false, [(.int .i64)]), (.B, false, [(.int .i64)]), (.B, false, [(.int .i64)])], [(false, [.bool])], [(.int .i64), (.int .i64), (.int .i64)], [.bool], fun (p : Int × Int × Int) => f_spec_l1In p.1 p.2.1 p.2.2⟩
noncomputable abbrev K94 : Cons := []
noncomputable abbrev L94 : List (Nat × Loops) := []
abbrev Q94 : List (Nat × List (Int × Nat) × Nat) := []
noncomputable abbrev X94 : Nat → Ctx := ctxOf tb K94 L94 Q94
theorem E94 : ∀ x, funRun fs X94 6 94 C94 x = C94.fn x := fun x => by kernel_rfl
theorem B94 : ConB Try.prog 94 C94 := ConB.make FS MIX TY (cons := K94) (L := L94) (ptrs := Q94) trivial trivial trivial rfl rfl E94
theorem S94 : ConS Try.prog 94 C94 := B94.call rfl
/-! spec.l1Words: function 112 -/
noncomputable def f_spec_l1Words.l0 : Nat → (List Int) → Int → Bool → Int → Option ((Bool) ⊕ (List Int × Int × Bool))
  | 0, _, _, _, _ => none
  | n + 1, p100, p101, p102, p103 =>
    bif (decide (p103 < (p100.length : Int))) then
      bif ((decide ((0 : Int) ≤ p103)) && (decide (p103 < (p100.length : Int)))) then
      (f_spec_l1In (p100.getD p103.toNat 0) 0 65535).bind fun y104 =>
      bif (!y104) then
        some (.inl false)
      else
        f_spec_l1Words.l0 n p100 p101 p102 (IntKind.wrap .i64 (p103 + (1 : Int)))
      else none
    else
      some (.inr (p100, p101, p102))
noncomputable def f_spec_l1Words (x0 : List Int) (x1 : Int) : Option (Bool) :=
  (f_spec_l1Words.l0 N x0 x1 false 0).bind fun r105 =>
  cs r105 (fun a106 =>
    some a106) (fun b107 =>
    some (decide ((b107.1.length : Int) = b107.2.1)))
noncomputable def C112 : Con := ⟨[(.B, false, [(.sl R0)]), (.B, false, [(.int .i64)])], [(false, [.bool])], [(.sl R0), (.int .i64)], [.bool], fun (p : List Int × Int) => f_spec_l1Words p.1 p.2⟩
noncomputable def f_spec_l1Words.l0.c : LoopCon := ⟨1000, 6, [0, 1, 4, 5], ⟨[(0, .bor none R0 []), (1, .int .i64 0), (4, .bool false), (5, .int .i64 0)], [], 1000⟩, [(.sl R0), (.int .i64), .bool, (.int .i64)], [⟨.ret, [4], ⟨[(4, .bool false)], [], 1000⟩, [.bool]⟩, ⟨.exit 0, [0, 1, 4], ⟨[(0, .bor none R0 []), (1, .int .i64 0), (4, .bool false)], [], 1000⟩, [(.sl R0), (.int .i64), .bool]⟩], fun (p : List Int × Int × Bool × Int) => f_spec_l1Words.l0 N p.1 p.2.1 p.2.2.1 p.2.2.2⟩
noncomputable abbrev K112 : Cons := [(94, C94)]
noncomputable abbrev L112 : List (Nat × Loops) := [(112, [(2, f_spec_l1Words.l0.c)])]
abbrev Q112 : List (Nat × List (Int × Nat) × Nat) := []
noncomputable abbrev X112 : Nat → Ctx := ctxOf tb K112 L112 Q112
theorem f_spec_l1Words.l0.ok : ∀ n p, (fun (p : List Int × Int × Bool × Int) => f_spec_l1Words.l0 n p.1 p.2.1 p.2.2.1 p.2.2.2) p = iterD (roundOf fs X112 6 112 2 false f_spec_l1Words.l0.c) n p :=
  iter_of (l := fun n => fun (p : List Int × Int × Bool × Int) => f_spec_l1Words.l0 n p.1 p.2.1 p.2.2.1 p.2.2.2) (fun _ => rfl) (fun n p => by kernel_rfl)
theorem E112 : ∀ x, funRun fs X112 6 112 C112 x = C112.fn x := fun x => by kernel_rfl
theorem B112 : ConB Try.prog 112 C112 := ConB.make FS MIX TY (cons := K112) (L := L112) (ptrs := Q112) ⟨S94, trivial⟩ trivial ⟨⟨⟨N, fun p => f_spec_l1Words.l0.ok N p⟩, trivial⟩, trivial⟩ rfl rfl E112
theorem S112 : ConS Try.prog 112 C112 := B112.call rfl
/-! spec.FrameOk: function 71 -/
noncomputable def f_spec_FrameOk (x0 : Int) (x1 : List Int) (x2 : Bool) : Option (Bool) :=
  bif (decide (x0 = (0 : Int))) then
    some (decide ((x1.length : Int) = (0 : Int)))
  else
    (f_spec_l1In x0 0 2).bind fun y108 =>
    bif y108 then
      (f_spec_l1Words x1 4).bind fun y109 =>
      some y109
    else
      some false
noncomputable def C71 : Con := ⟨[(.B, true, [(.int .i64), (.sl R0), .bool])], [(false, [.bool])], [(.int .i64), (.sl R0), .bool], [.bool], fun (p : Int × List Int × Bool) => f_spec_FrameOk p.1 p.2.1 p.2.2⟩
noncomputable abbrev K71 : Cons := [(94, C94), (112, C112)]
noncomputable abbrev L71 : List (Nat × Loops) := []
abbrev Q71 : List (Nat × List (Int × Nat) × Nat) := []
noncomputable abbrev X71 : Nat → Ctx := ctxOf tb K71 L71 Q71
theorem E71 : ∀ x, funRun fs X71 6 71 C71 x = C71.fn x := fun x => by kernel_rfl
theorem B71 : ConB Try.prog 71 C71 := ConB.make FS MIX TY (cons := K71) (L := L71) (ptrs := Q71) ⟨S94, S112, trivial⟩ trivial trivial rfl rfl E71
theorem S71 : ConS Try.prog 71 C71 := B71.call rfl
/-! spec.HomeOk: function 135 -/
noncomputable def f_spec_HomeOk.l0 : Nat → Int → Bool → Int → (List Int) → Int → (List Bool) → Bool → Int → Bool → Int → (List (Int × Bool)) → Option ((Bool) ⊕ (Bool))
  | 0, _, _, _, _, _, _, _, _, _, _, _ => none
  | n + 1, p115, p116, p117, p118, p119, p120, p121, p122, p123, p124, p125 =>
    bif (decide (p117 < (p125.length : Int))) then
      bif ((decide ((0 : Int) ≤ p117)) && (decide (p117 < (p125.length : Int)))) then
      (f_spec_l1In ((p125.getD p117.toNat (0, false)).1) 0 (IntKind.wrap .i64 (p115 - (1 : Int)))).bind fun y126 =>
      bif (!y126) then
        some (.inl false)
      else
        f_spec_HomeOk.l0 n p115 p116 (IntKind.wrap .i64 (p117 + (1 : Int))) p118 p119 p120 p121 p122 p123 p124 p125
      else none
    else
      some (.inr p116)
noncomputable def f_spec_HomeOk (x0 : List Int) (x1 : Int) (x2 : List Bool) (x3 : Bool) (x4 : Int) (x5 : Bool) (x6 : Int) (x7 : List (Int × Bool)) (x8 : Int) : Option (Bool) :=
  (f_spec_l1In x8 1 4).bind fun y110 =>
  bif (!y110) then
    some false
  else
    (f_spec_l1Words x0 4).bind fun y111 =>
    bif (!y111) then
      some false
    else
      (f_spec_l1In x1 (-1) (IntKind.wrap .i64 (x8 - (1 : Int)))).bind fun y112 =>
      bif (!y112) then
        some false
      else
        bif (!(decide ((x2.length : Int) = x8))) then
          some false
        else
          (f_spec_l1In x4 0 (IntKind.wrap .i64 (x8 - (1 : Int)))).bind fun y113 =>
          bif (!y113) then
            some false
          else
            (f_spec_l1In x6 0 x8).bind fun y114 =>
            bif (!y114) then
              some false
            else
              bif (decide ((12 : Int) < (x7.length : Int))) then
                some false
              else
                (f_spec_HomeOk.l0 N x8 false 0 x0 x1 x2 x3 x4 x5 x6 x7).bind fun r127 =>
                cs r127 (fun a128 =>
                  some a128) (fun b129 =>
                  some true)
noncomputable def C135 : Con := ⟨[(.B, true, [(.sl R0), (.int .i64), (.sl R2), .bool, (.int .i64), .bool, (.int .i64), (.sl R3)]), (.B, false, [(.int .i64)])], [(false, [.bool])], [(.sl R0), (.int .i64), (.sl R2), .bool, (.int .i64), .bool, (.int .i64), (.sl R3), (.int .i64)], [.bool], fun (p : List Int × Int × List Bool × Bool × Int × Bool × Int × (List (Int × Bool)) × Int) => f_spec_HomeOk p.1 p.2.1 p.2.2.1 p.2.2.2.1 p.2.2.2.2.1 p.2.2.2.2.2.1 p.2.2.2.2.2.2.1 p.2.2.2.2.2.2.2.1 p.2.2.2.2.2.2.2.2⟩
noncomputable def f_spec_HomeOk.l0.c : LoopCon := ⟨1000, 6, [1, 2, 4, 5], ⟨[(1, .int .i64 0), (2, .ptr 1000 0), (4, .bool false), (5, .int .i64 0)], [(1000, .box [.bor none R0 [], .int .i64 0, .bor none R2 [], .bool false, .int .i64 0, .bool false, .int .i64 0, .bor none R3 []])], 1001⟩, [(.int .i64), .bool, (.int .i64), (.sl R0), (.int .i64), (.sl R2), .bool, (.int .i64), .bool, (.int .i64), (.sl R3)], [⟨.ret, [4], ⟨[(4, .bool false)], [], 1000⟩, [.bool]⟩, ⟨.exit 0, [4], ⟨[(4, .bool false)], [], 1000⟩, [.bool]⟩], fun (p : Int × Bool × Int × List Int × Int × List Bool × Bool × Int × Bool × Int × (List (Int × Bool))) => f_spec_HomeOk.l0 N p.1 p.2.1 p.2.2.1 p.2.2.2.1 p.2.2.2.2.1 p.2.2.2.2.2.1 p.2.2.2.2.2.2.1 p.2.2.2.2.2.2.2.1 p.2.2.2.2.2.2.2.2.1 p.2.2.2.2.2.2.2.2.2.1 p.2.2.2.2.2.2.2.2.2.2⟩
noncomputable abbrev K135 : Cons := [(94, C94), (112, C112)]
noncomputable abbrev L135 : List (Nat × Loops) := [(135, [(4, f_spec_HomeOk.l0.c)])]
abbrev Q135 : List (Nat × List (Int × Nat) × Nat) := []
noncomputable abbrev X135 : Nat → Ctx := ctxOf tb K135 L135 Q135
theorem f_spec_HomeOk.l0.ok : ∀ n p, (fun (p : Int × Bool × Int × List Int × Int × List Bool × Bool × Int × Bool × Int × (List (Int × Bool))) => f_spec_HomeOk.l0 n p.1 p.2.1 p.2.2.1 p.2.2.2.1 p.2.2.2.2.1 p.2.2.2.2.2.1 p.2.2.2.2.2.2.1 p.2.2.2.2.2.2.2.1 p.2.2.2.2.2.2.2.2.1 p.2.2.2.2.2.2.2.2.2.1 p.2.2.2.2.2.2.2.2.2.2) p = iterD (roundOf fs X135 6 135 4 false f_spec_HomeOk.l0.c) n p :=
  iter_of (l := fun n => fun (p : Int × Bool × Int × List Int × Int × List Bool × Bool × Int × Bool × Int × (List (Int × Bool))) => f_spec_HomeOk.l0 n p.1 p.2.1 p.2.2.1 p.2.2.2.1 p.2.2.2.2.1 p.2.2.2.2.2.1 p.2.2.2.2.2.2.1 p.2.2.2.2.2.2.2.1 p.2.2.2.2.2.2.2.2.1 p.2.2.2.2.2.2.2.2.2.1 p.2.2.2.2.2.2.2.2.2.2) (fun _ => rfl) (fun n p => by kernel_rfl)
theorem E135 : ∀ x, funRun fs X135 6 135 C135 x = C135.fn x := fun x => by kernel_rfl
theorem B135 : ConB Try.prog 135 C135 := ConB.make FS MIX TY (cons := K135) (L := L135) (ptrs := Q135) ⟨S94, S112, trivial⟩ trivial ⟨⟨⟨N, fun p => f_spec_HomeOk.l0.ok N p⟩, trivial⟩, trivial⟩ rfl rfl E135
theorem S135 : ConS Try.prog 135 C135 := B135.call rfl
/-! spec.MsgOk: function 91 -/
noncomputable def f_spec_MsgOk (x0 : Int) (x1 : Int) (x2 : Bool) (x3 : List Int) : Option (Bool) :=
  bif (decide (x0 = (3 : Int))) then
    bif (decide (x0 = (3 : Int))) then
      (f_spec_l1In x0 1 7).bind fun y130 =>
      bif y130 then
        (f_spec_l1In x1 0 5).bind fun y131 =>
        bif y131 then
          (f_spec_l1Words x3 4).bind fun y132 =>
          some y132
        else
          some false
      else
        some false
    else
      (f_spec_l1In x0 1 7).bind fun y133 =>
      bif y133 then
        (f_spec_l1In x1 0 5).bind fun y134 =>
        bif y134 then
          bif (decide (x0 = (6 : Int))) then
            (f_spec_l1Words x3 4).bind fun y135 =>
            some y135
          else
            bif (!x2) then
              (f_spec_l1Words x3 4).bind fun y136 =>
              some y136
            else
              some false
        else
          some false
      else
        some false
  else
    bif (decide (x0 = (7 : Int))) then
      bif (decide (x0 = (3 : Int))) then
        (f_spec_l1In x0 1 7).bind fun y137 =>
        bif y137 then
          (f_spec_l1In x1 0 5).bind fun y138 =>
          bif y138 then
            (f_spec_l1Words x3 4).bind fun y139 =>
            some y139
          else
            some false
        else
          some false
      else
        (f_spec_l1In x0 1 7).bind fun y140 =>
        bif y140 then
          (f_spec_l1In x1 0 5).bind fun y141 =>
          bif y141 then
            bif (decide (x0 = (6 : Int))) then
              (f_spec_l1Words x3 4).bind fun y142 =>
              some y142
            else
              bif (!x2) then
                (f_spec_l1Words x3 4).bind fun y143 =>
                some y143
              else
                some false
          else
            some false
        else
          some false
    else
      bif (decide (x0 = (3 : Int))) then
        (f_spec_l1In x0 1 7).bind fun y144 =>
        bif y144 then
          (f_spec_l1In x1 0 5).bind fun y145 =>
          bif y145 then
            (f_spec_l1Words x3 0).bind fun y146 =>
            some y146
          else
            some false
        else
          some false
      else
        (f_spec_l1In x0 1 7).bind fun y147 =>
        bif y147 then
          (f_spec_l1In x1 0 5).bind fun y148 =>
          bif y148 then
            bif (decide (x0 = (6 : Int))) then
              (f_spec_l1Words x3 0).bind fun y149 =>
              some y149
            else
              bif (!x2) then
                (f_spec_l1Words x3 0).bind fun y150 =>
                some y150
              else
                some false
          else
            some false
        else
          some false
noncomputable def C91 : Con := ⟨[(.B, true, [(.int .i64), (.int .i64), .bool, (.sl R0)])], [(false, [.bool])], [(.int .i64), (.int .i64), .bool, (.sl R0)], [.bool], fun (p : Int × Int × Bool × List Int) => f_spec_MsgOk p.1 p.2.1 p.2.2.1 p.2.2.2⟩
noncomputable abbrev K91 : Cons := [(94, C94), (112, C112)]
noncomputable abbrev L91 : List (Nat × Loops) := []
abbrev Q91 : List (Nat × List (Int × Nat) × Nat) := []
noncomputable abbrev X91 : Nat → Ctx := ctxOf tb K91 L91 Q91
theorem E91 : ∀ x, funRun fs X91 6 91 C91 x = C91.fn x := fun x => by kernel_rfl
theorem B91 : ConB Try.prog 91 C91 := ConB.make FS MIX TY (cons := K91) (L := L91) (ptrs := Q91) ⟨S94, S112, trivial⟩ trivial trivial rfl rfl E91
theorem S91 : ConS Try.prog 91 C91 := B91.call rfl
/-! spec.SenderOk: function 136 -/
noncomputable def f_spec_SenderOk.l0 : Nat → Bool → Int → Int → (List (Int × Int × Bool × List Int)) → Option ((Bool) ⊕ (Bool × Int × (List (Int × Int × Bool × List Int))))
  | 0, _, _, _, _ => none
  | n + 1, p151, p152, p153, p154 =>
    bif (decide (p152 < (p154.length : Int))) then
      bif ((decide ((0 : Int) ≤ p152)) && (decide (p152 < (p154.length : Int)))) then
      (f_spec_MsgOk ((p154.getD p152.toNat (0, 0, false, [])).1) ((p154.getD p152.toNat (0, 0, false, [])).2.1) ((p154.getD p152.toNat (0, 0, false, [])).2.2.1) ((p154.getD p152.toNat (0, 0, false, [])).2.2.2)).bind fun y155 =>
      bif (!y155) then
        some (.inl false)
      else
        f_spec_SenderOk.l0 n p151 (IntKind.wrap .i64 (p152 + (1 : Int))) p153 p154
      else none
    else
      some (.inr (p151, p153, p154))
noncomputable def f_spec_SenderOk (x0 : Int) (x1 : List (Int × Int × Bool × List Int)) : Option (Bool) :=
  (f_spec_SenderOk.l0 N false 0 x0 x1).bind fun r156 =>
  cs r156 (fun a157 =>
    some a157) (fun b158 =>
    (f_spec_l1In b158.2.1 0 100000).bind fun y159 =>
    bif y159 then
      bif (decide ((b158.2.2.length : Int) ≤ (30 : Int))) then
        some (decide ((IntKind.wrap .i64 (b158.2.1 + (b158.2.2.length : Int))) ≤ (100000 : Int)))
      else
        some false
    else
      some false)
noncomputable def C136 : Con := ⟨[(.B, true, [(.int .i64), (.sl R5)])], [(false, [.bool])], [(.int .i64), (.sl R5)], [.bool], fun (p : Int × (List (Int × Int × Bool × List Int))) => f_spec_SenderOk p.1 p.2⟩
noncomputable def f_spec_SenderOk.l0.c : LoopCon := ⟨1000, 6, [1, 2, 3], ⟨[(1, .ptr 1000 0), (2, .bool false), (3, .int .i64 0)], [(1000, .box [.int .i64 0, .bor none R5 []])], 1001⟩, [.bool, (.int .i64), (.int .i64), (.sl R5)], [⟨.ret, [2], ⟨[(2, .bool false)], [], 1000⟩, [.bool]⟩, ⟨.exit 0, [1, 2], ⟨[(1, .ptr 1000 0), (2, .bool false)], [(1000, .box [.int .i64 0, .bor none R5 []])], 1001⟩, [.bool, (.int .i64), (.sl R5)]⟩], fun (p : Bool × Int × Int × (List (Int × Int × Bool × List Int))) => f_spec_SenderOk.l0 N p.1 p.2.1 p.2.2.1 p.2.2.2⟩
noncomputable abbrev K136 : Cons := [(91, C91), (94, C94)]
noncomputable abbrev L136 : List (Nat × Loops) := [(136, [(2, f_spec_SenderOk.l0.c)])]
abbrev Q136 : List (Nat × List (Int × Nat) × Nat) := []
noncomputable abbrev X136 : Nat → Ctx := ctxOf tb K136 L136 Q136
theorem f_spec_SenderOk.l0.ok : ∀ n p, (fun (p : Bool × Int × Int × (List (Int × Int × Bool × List Int))) => f_spec_SenderOk.l0 n p.1 p.2.1 p.2.2.1 p.2.2.2) p = iterD (roundOf fs X136 6 136 2 false f_spec_SenderOk.l0.c) n p :=
  iter_of (l := fun n => fun (p : Bool × Int × Int × (List (Int × Int × Bool × List Int))) => f_spec_SenderOk.l0 n p.1 p.2.1 p.2.2.1 p.2.2.2) (fun _ => rfl) (fun n p => by kernel_rfl)
theorem E136 : ∀ x, funRun fs X136 6 136 C136 x = C136.fn x := fun x => by kernel_rfl
theorem B136 : ConB Try.prog 136 C136 := ConB.make FS MIX TY (cons := K136) (L := L136) (ptrs := Q136) ⟨S91, S94, trivial⟩ trivial ⟨⟨⟨N, fun p => f_spec_SenderOk.l0.ok N p⟩, trivial⟩, trivial⟩ rfl rfl E136
theorem S136 : ConS Try.prog 136 C136 := B136.call rfl
/-! spec.NodeOk: function 86 -/
noncomputable def f_spec_NodeOk.l1 : Nat → Int → Bool → Int → Int → (List (Int × List Int × Bool)) → (List (List Int × Int × List Bool × Bool × Int × Bool × Int × (List (Int × Bool)))) → (List (Int × (List (Int × Int × Bool × List Int)))) → (List Int) → Option ((Bool) ⊕ (Bool))
  | 0, _, _, _, _, _, _, _, _ => none
  | n + 1, p175, p176, p177, p178, p179, p180, p181, p182 =>
    bif (decide (p177 < p175)) then
      bif ((decide ((0 : Int) ≤ p177)) && (decide (p177 < (p181.length : Int)))) then
      (f_spec_SenderOk ((p181.getD p177.toNat (0, [])).1) ((p181.getD p177.toNat (0, [])).2)).bind fun y183 =>
      bif (!y183) then
        some (.inl false)
      else
        bif ((decide ((0 : Int) ≤ p177)) && (decide (p177 < (p182.length : Int)))) then
        (f_spec_l1In (p182.getD p177.toNat 0) 0 100000).bind fun y184 =>
        bif (!y184) then
          some (.inl false)
        else
          f_spec_NodeOk.l1 n p175 p176 (IntKind.wrap .i64 (p177 + (1 : Int))) p178 p179 p180 p181 p182
        else none
      else none
    else
      some (.inr p176)
noncomputable def f_spec_NodeOk.l0 : Nat → Int → Bool → Int → Int → (List (Int × List Int × Bool)) → (List (List Int × Int × List Bool × Bool × Int × Bool × Int × (List (Int × Bool)))) → (List (Int × (List (Int × Int × Bool × List Int)))) → (List Int) → Option ((Bool) ⊕ (Int × Bool × Int × (List (Int × List Int × Bool)) × (List (List Int × Int × List Bool × Bool × Int × Bool × Int × (List (Int × Bool)))) × (List (Int × (List (Int × Int × Bool × List Int)))) × List Int))
  | 0, _, _, _, _, _, _, _, _ => none
  | n + 1, p162, p163, p164, p165, p166, p167, p168, p169 =>
    bif (decide (p164 < (6 : Int))) then
      bif ((decide ((0 : Int) ≤ p164)) && (decide (p164 < (p166.length : Int)))) then
      (f_spec_FrameOk ((p166.getD p164.toNat (0, [], false)).1) ((p166.getD p164.toNat (0, [], false)).2.1) ((p166.getD p164.toNat (0, [], false)).2.2)).bind fun y170 =>
      bif (!y170) then
        some (.inl false)
      else
        bif ((decide ((0 : Int) ≤ p164)) && (decide (p164 < (p167.length : Int)))) then
        (f_spec_HomeOk ((p167.getD p164.toNat ([], 0, [], false, 0, false, 0, [])).1) ((p167.getD p164.toNat ([], 0, [], false, 0, false, 0, [])).2.1) ((p167.getD p164.toNat ([], 0, [], false, 0, false, 0, [])).2.2.1) ((p167.getD p164.toNat ([], 0, [], false, 0, false, 0, [])).2.2.2.1) ((p167.getD p164.toNat ([], 0, [], false, 0, false, 0, [])).2.2.2.2.1) ((p167.getD p164.toNat ([], 0, [], false, 0, false, 0, [])).2.2.2.2.2.1) ((p167.getD p164.toNat ([], 0, [], false, 0, false, 0, [])).2.2.2.2.2.2.1) ((p167.getD p164.toNat ([], 0, [], false, 0, false, 0, [])).2.2.2.2.2.2.2) p162).bind fun y171 =>
        bif (!y171) then
          some (.inl false)
        else
          f_spec_NodeOk.l0 n p162 p163 (IntKind.wrap .i64 (p164 + (1 : Int))) p165 p166 p167 p168 p169
        else none
      else none
    else
      some (.inr (p162, p163, p165, p166, p167, p168, p169))
noncomputable def f_spec_NodeOk (x0 : Int) (x1 : List (Int × List Int × Bool)) (x2 : List (List Int × Int × List Bool × Bool × Int × Bool × Int × (List (Int × Bool)))) (x3 : List (Int × (List (Int × Int × Bool × List Int)))) (x4 : List Int) (x5 : Int) : Option (Bool) :=
  (f_spec_l1In x5 1 4).bind fun y160 =>
  bif (!y160) then
    some false
  else
    (f_spec_l1In x0 0 (IntKind.wrap .i64 (x5 - (1 : Int)))).bind fun y161 =>
    bif (!y161) then
      some false
    else
      bif (!(decide ((x1.length : Int) = (6 : Int)))) then
        some false
      else
        bif (!(decide ((x2.length : Int) = (6 : Int)))) then
          some false
        else
          bif (!(decide ((x3.length : Int) = x5))) then
            some false
          else
            bif (!(decide ((x4.length : Int) = x5))) then
              some false
            else
              (f_spec_NodeOk.l0 N x5 false 0 x0 x1 x2 x3 x4).bind fun r172 =>
              cs r172 (fun a173 =>
                some a173) (fun b174 =>
                (f_spec_NodeOk.l1 N b174.1 b174.2.1 0 b174.2.2.1 b174.2.2.2.1 b174.2.2.2.2.1 b174.2.2.2.2.2.1 b174.2.2.2.2.2.2).bind fun r185 =>
                cs r185 (fun a186 =>
                  some a186) (fun b187 =>
                  some true))
noncomputable def C86 : Con := ⟨[(.B, true, [(.int .i64), (.sl R1), (.sl R4), (.sl R6), (.sl R0)]), (.B, false, [(.int .i64)])], [(false, [.bool])], [(.int .i64), (.sl R1), (.sl R4), (.sl R6), (.sl R0), (.int .i64)], [.bool], fun (p : Int × (List (Int × List Int × Bool)) × (List (List Int × Int × List Bool × Bool × Int × Bool × Int × (List (Int × Bool)))) × (List (Int × (List (Int × Int × Bool × List Int)))) × List Int × Int) => f_spec_NodeOk p.1 p.2.1 p.2.2.1 p.2.2.2.1 p.2.2.2.2.1 p.2.2.2.2.2⟩
noncomputable def f_spec_NodeOk.l0.c : LoopCon := ⟨1000, 6, [1, 2, 4, 5], ⟨[(1, .int .i64 0), (2, .ptr 1000 0), (4, .bool false), (5, .int .i64 0)], [(1000, .box [.int .i64 0, .bor none R1 [], .bor none R4 [], .bor none R6 [], .bor none R0 []])], 1001⟩, [(.int .i64), .bool, (.int .i64), (.int .i64), (.sl R1), (.sl R4), (.sl R6), (.sl R0)], [⟨.ret, [4], ⟨[(4, .bool false)], [], 1000⟩, [.bool]⟩, ⟨.exit 0, [1, 2, 4], ⟨[(1, .int .i64 0), (2, .ptr 1000 0), (4, .bool false)], [(1000, .box [.int .i64 0, .bor none R1 [], .bor none R4 [], .bor none R6 [], .bor none R0 []])], 1001⟩, [(.int .i64), .bool, (.int .i64), (.sl R1), (.sl R4), (.sl R6), (.sl R0)]⟩], fun (p : Int × Bool × Int × Int × (List (Int × List Int × Bool)) × (List (List Int × Int × List Bool × Bool × Int × Bool × Int × (List (Int × Bool)))) × (List (Int × (List (Int × Int × Bool × List Int)))) × List Int) => f_spec_NodeOk.l0 N p.1 p.2.1 p.2.2.1 p.2.2.2.1 p.2.2.2.2.1 p.2.2.2.2.2.1 p.2.2.2.2.2.2.1 p.2.2.2.2.2.2.2⟩
noncomputable def f_spec_NodeOk.l1.c : LoopCon := ⟨1000, 6, [1, 2, 4, 6], ⟨[(1, .int .i64 0), (2, .ptr 1000 0), (4, .bool false), (6, .int .i64 0)], [(1000, .box [.int .i64 0, .bor none R1 [], .bor none R4 [], .bor none R6 [], .bor none R0 []])], 1001⟩, [(.int .i64), .bool, (.int .i64), (.int .i64), (.sl R1), (.sl R4), (.sl R6), (.sl R0)], [⟨.ret, [4], ⟨[(4, .bool false)], [], 1000⟩, [.bool]⟩, ⟨.exit 2, [4], ⟨[(4, .bool false)], [], 1000⟩, [.bool]⟩], fun (p : Int × Bool × Int × Int × (List (Int × List Int × Bool)) × (List (List Int × Int × List Bool × Bool × Int × Bool × Int × (List (Int × Bool)))) × (List (Int × (List (Int × Int × Bool × List Int)))) × List Int) => f_spec_NodeOk.l1 N p.1 p.2.1 p.2.2.1 p.2.2.2.1 p.2.2.2.2.1 p.2.2.2.2.2.1 p.2.2.2.2.2.2.1 p.2.2.2.2.2.2.2⟩
noncomputable abbrev K86 : Cons := [(71, C71), (94, C94), (135, C135), (136, C136)]
noncomputable abbrev L86 : List (Nat × Loops) := [(86, [(4, f_spec_NodeOk.l0.c), (9, f_spec_NodeOk.l1.c)])]
abbrev Q86 : List (Nat × List (Int × Nat) × Nat) := []
noncomputable abbrev X86 : Nat → Ctx := ctxOf tb K86 L86 Q86
theorem f_spec_NodeOk.l0.ok : ∀ n p, (fun (p : Int × Bool × Int × Int × (List (Int × List Int × Bool)) × (List (List Int × Int × List Bool × Bool × Int × Bool × Int × (List (Int × Bool)))) × (List (Int × (List (Int × Int × Bool × List Int)))) × List Int) => f_spec_NodeOk.l0 n p.1 p.2.1 p.2.2.1 p.2.2.2.1 p.2.2.2.2.1 p.2.2.2.2.2.1 p.2.2.2.2.2.2.1 p.2.2.2.2.2.2.2) p = iterD (roundOf fs X86 6 86 4 false f_spec_NodeOk.l0.c) n p :=
  iter_of (l := fun n => fun (p : Int × Bool × Int × Int × (List (Int × List Int × Bool)) × (List (List Int × Int × List Bool × Bool × Int × Bool × Int × (List (Int × Bool)))) × (List (Int × (List (Int × Int × Bool × List Int)))) × List Int) => f_spec_NodeOk.l0 n p.1 p.2.1 p.2.2.1 p.2.2.2.1 p.2.2.2.2.1 p.2.2.2.2.2.1 p.2.2.2.2.2.2.1 p.2.2.2.2.2.2.2) (fun _ => rfl) (fun n p => by kernel_rfl)
theorem f_spec_NodeOk.l1.ok : ∀ n p, (fun (p : Int × Bool × Int × Int × (List (Int × List Int × Bool)) × (List (List Int × Int × List Bool × Bool × Int × Bool × Int × (List (Int × Bool)))) × (List (Int × (List (Int × Int × Bool × List Int)))) × List Int) => f_spec_NodeOk.l1 n p.1 p.2.1 p.2.2.1 p.2.2.2.1 p.2.2.2.2.1 p.2.2.2.2.2.1 p.2.2.2.2.2.2.1 p.2.2.2.2.2.2.2) p = iterD (roundOf fs X86 6 86 9 false f_spec_NodeOk.l1.c) n p :=
  iter_of (l := fun n => fun (p : Int × Bool × Int × Int × (List (Int × List Int × Bool)) × (List (List Int × Int × List Bool × Bool × Int × Bool × Int × (List (Int × Bool)))) × (List (Int × (List (Int × Int × Bool × List Int)))) × List Int) => f_spec_NodeOk.l1 n p.1 p.2.1 p.2.2.1 p.2.2.2.1 p.2.2.2.2.1 p.2.2.2.2.2.1 p.2.2.2.2.2.2.1 p.2.2.2.2.2.2.2) (fun _ => rfl) (fun n p => by kernel_rfl)
theorem E86 : ∀ x, funRun fs X86 6 86 C86 x = C86.fn x := fun x => by kernel_rfl
theorem B86 : ConB Try.prog 86 C86 := ConB.make FS MIX TY (cons := K86) (L := L86) (ptrs := Q86) ⟨S71, S94, S135, S136, trivial⟩ trivial ⟨⟨⟨N, fun p => f_spec_NodeOk.l0.ok N p⟩, ⟨N, fun p => f_spec_NodeOk.l1.ok N p⟩, trivial⟩, trivial⟩ rfl rfl E86
theorem S86 : ConS Try.prog 86 C86 := B86.call rfl
/-! impl.from: function 118 -/
noncomputable def f_impl_from (x0 : Int) (x1 : Int) (x2 : Int) : Option (Bool) :=
  bif (decide (x1 ≤ x0)) then
    some (decide (x0 ≤ x2))
  else
    some false
noncomputable def C118 : Con := ⟨[(.B, false, [(.int .i64)]), (.B, false, [(.int .i64)]), (.B, false, [(.int .i64)])], [(false, [.bool])], [(.int .i64), (.int .i64), (.int .i64)], [.bool], fun (p : Int × Int × Int) => f_impl_from p.1 p.2.1 p.2.2⟩
noncomputable abbrev K118 : Cons := []
noncomputable abbrev L118 : List (Nat × Loops) := []
abbrev Q118 : List (Nat × List (Int × Nat) × Nat) := []
noncomputable abbrev X118 : Nat → Ctx := ctxOf tb K118 L118 Q118
theorem E118 : ∀ x, funRun fs X118 6 118 C118 x = C118.fn x := fun x => by kernel_rfl
theorem B118 : ConB Try.prog 118 C118 := ConB.make FS MIX TY (cons := K118) (L := L118) (ptrs := Q118) trivial trivial trivial rfl rfl E118
theorem S118 : ConS Try.prog 118 C118 := B118.call rfl
/-! impl.isOf: function 141 -/
noncomputable def f_impl_isOf (x0 : Int) (x1 : Int) : Option (Bool) :=
  (f_impl_from x1 1 4).bind fun y188 =>
  bif y188 then
    (f_impl_from x0 0 (IntKind.wrap .i64 (x1 - (1 : Int)))).bind fun y189 =>
    some y189
  else
    some false
noncomputable def C141 : Con := ⟨[(.B, false, [(.int .i64)]), (.B, false, [(.int .i64)])], [(false, [.bool])], [(.int .i64), (.int .i64)], [.bool], fun (p : Int × Int) => f_impl_isOf p.1 p.2⟩
noncomputable abbrev K141 : Cons := [(118, C118)]
noncomputable abbrev L141 : List (Nat × Loops) := []
abbrev Q141 : List (Nat × List (Int × Nat) × Nat) := []
noncomputable abbrev X141 : Nat → Ctx := ctxOf tb K141 L141 Q141
theorem E141 : ∀ x, funRun fs X141 6 141 C141 x = C141.fn x := fun x => by kernel_rfl
theorem B141 : ConB Try.prog 141 C141 := ConB.make FS MIX TY (cons := K141) (L := L141) (ptrs := Q141) ⟨S118, trivial⟩ trivial trivial rfl rfl E141
theorem S141 : ConS Try.prog 141 C141 := B141.call rfl
/-! impl.isWord: function 109 -/
noncomputable def f_impl_isWord (x0 : Int) : Option (Bool) :=
  (f_impl_from x0 0 65535).bind fun y190 =>
  some y190
noncomputable def C109 : Con := ⟨[(.B, false, [(.int .i64)])], [(false, [.bool])], [(.int .i64)], [.bool], fun (p : Int) => f_impl_isWord p⟩
noncomputable abbrev K109 : Cons := [(118, C118)]
noncomputable abbrev L109 : List (Nat × Loops) := []
abbrev Q109 : List (Nat × List (Int × Nat) × Nat) := []
noncomputable abbrev X109 : Nat → Ctx := ctxOf tb K109 L109 Q109
theorem E109 : ∀ x, funRun fs X109 6 109 C109 x = C109.fn x := fun x => by kernel_rfl
theorem B109 : ConB Try.prog 109 C109 := ConB.make FS MIX TY (cons := K109) (L := L109) (ptrs := Q109) ⟨S118, trivial⟩ trivial trivial rfl rfl E109
theorem S109 : ConS Try.prog 109 C109 := B109.call rfl
/-! impl.wordsOk$1: function 163 -/
noncomputable def f_impl_wordsOk_1 (x0 : Int) : Option (Bool) :=
  (f_impl_isWord x0).bind fun y191 =>
  some (!y191)
noncomputable def C163 : Con := ⟨[(.B, false, [(.int .i64)])], [(false, [.bool])], [(.int .i64)], [.bool], fun (p : Int) => f_impl_wordsOk_1 p⟩
noncomputable abbrev K163 : Cons := [(109, C109)]
noncomputable abbrev L163 : List (Nat × Loops) := []
abbrev Q163 : List (Nat × List (Int × Nat) × Nat) := []
noncomputable abbrev X163 : Nat → Ctx := ctxOf tb K163 L163 Q163
theorem E163 : ∀ x, funRun fs X163 6 163 C163 x = C163.fn x := fun x => by kernel_rfl
theorem B163 : ConB Try.prog 163 C163 := ConB.make FS MIX TY (cons := K163) (L := L163) (ptrs := Q163) ⟨S109, trivial⟩ trivial trivial rfl rfl E163
theorem S163 : ConS Try.prog 163 C163 := B163.call rfl
/-! impl.wordsOk: function 125 -/
noncomputable def f_impl_wordsOk.l0 : Nat → (List Int) → Int → Int → Int → Option ((Int) ⊕ (Int))
  | 0, _, _, _, _ => none
  | n + 1, p192, p193, p194, p195 =>
    bif (decide (p195 < p194)) then
      bif ((decide ((0 : Int) ≤ p195)) && (decide (p195 < (p192.length : Int)))) then
      (f_impl_wordsOk_1 (p192.getD p195.toNat 0)).bind fun y196 =>
      bif y196 then
        some (.inl p195)
      else
        f_impl_wordsOk.l0 n p192 p193 p194 (IntKind.wrap .i64 (p195 + (1 : Int)))
      else none
    else
      some (.inr p193)
noncomputable def f_impl_wordsOk (x0 : List Int) (x1 : Int) : Option (Bool) :=
  bif (decide ((x0.length : Int) = x1)) then
    (f_impl_wordsOk.l0 N x0 0 (x0.length : Int) 0).bind fun r197 =>
    cs r197 (fun a198 =>
      some (!(decide ((0 : Int) ≤ a198)))) (fun b199 =>
      some true)
  else
    some false
noncomputable def C125 : Con := ⟨[(.B, false, [(.sl R0)]), (.B, false, [(.int .i64)])], [(false, [.bool])], [(.sl R0), (.int .i64)], [.bool], fun (p : List Int × Int) => f_impl_wordsOk p.1 p.2⟩
noncomputable def f_impl_wordsOk.l0.c : LoopCon := ⟨1274, 4, [0, 1, 4, 7, 8], ⟨[(0, .bor none R0 []), (1, .func 163 []), (4, .int .i64 0), (7, .int .i64 0), (8, .int .i64 0)], [], 1274⟩, [(.sl R0), (.int .i64), (.int .i64), (.int .i64)], [⟨.ret, [4], ⟨[(4, .int .i64 0)], [], 1274⟩, [(.int .i64)]⟩, ⟨.exit 0, [4], ⟨[(4, .int .i64 0)], [], 1274⟩, [(.int .i64)]⟩], fun (p : List Int × Int × Int × Int) => f_impl_wordsOk.l0 N p.1 p.2.1 p.2.2.1 p.2.2.2⟩
noncomputable abbrev K125 : Cons := [(163, C163)]
noncomputable abbrev L125 : List (Nat × Loops) := [(181, [(2, f_impl_wordsOk.l0.c)])]
abbrev Q125 : List (Nat × List (Int × Nat) × Nat) := []
noncomputable abbrev X125 : Nat → Ctx := ctxOf tb K125 L125 Q125
theorem f_impl_wordsOk.l0.ok : ∀ n p, (fun (p : List Int × Int × Int × Int) => f_impl_wordsOk.l0 n p.1 p.2.1 p.2.2.1 p.2.2.2) p = iterD (roundOf fs X125 4 181 2 true f_impl_wordsOk.l0.c) n p :=
  iter_of (l := fun n => fun (p : List Int × Int × Int × Int) => f_impl_wordsOk.l0 n p.1 p.2.1 p.2.2.1 p.2.2.2) (fun _ => rfl) (fun n p => by kernel_rfl)
theorem E125 : ∀ x, funRun fs X125 6 125 C125 x = C125.fn x := fun x => by kernel_rfl
theorem B125 : ConB Try.prog 125 C125 := ConB.make FS MIX TY (cons := K125) (L := L125) (ptrs := Q125) ⟨S163, trivial⟩ trivial ⟨⟨⟨N, fun p => f_impl_wordsOk.l0.ok N p⟩, trivial⟩, trivial⟩ rfl rfl E125
theorem S125 : ConS Try.prog 125 C125 := B125.call rfl
/-! impl.FrameOk: function 70 -/
noncomputable def f_impl_FrameOk (x0 : Int) (x1 : List Int) (x2 : Bool) : Option (Bool) :=
  bif (decide (x0 = (0 : Int))) then
    some (decide ((x1.length : Int) = (0 : Int)))
  else
    bif (decide (x0 = (1 : Int))) then
      (f_impl_wordsOk x1 4).bind fun y200 =>
      some y200
    else
      bif (decide (x0 = (2 : Int))) then
        (f_impl_wordsOk x1 4).bind fun y201 =>
        some y201
      else
        some false
noncomputable def C70 : Con := ⟨[(.B, true, [(.int .i64), (.sl R0), .bool])], [(false, [.bool])], [(.int .i64), (.sl R0), .bool], [.bool], fun (p : Int × List Int × Bool) => f_impl_FrameOk p.1 p.2.1 p.2.2⟩
noncomputable abbrev K70 : Cons := [(125, C125)]
noncomputable abbrev L70 : List (Nat × Loops) := []
abbrev Q70 : List (Nat × List (Int × Nat) × Nat) := []
noncomputable abbrev X70 : Nat → Ctx := ctxOf tb K70 L70 Q70
theorem E70 : ∀ x, funRun fs X70 6 70 C70 x = C70.fn x := fun x => by kernel_rfl
theorem B70 : ConB Try.prog 70 C70 := ConB.make FS MIX TY (cons := K70) (L := L70) (ptrs := Q70) ⟨S125, trivial⟩ trivial trivial rfl rfl E70
theorem S70 : ConS Try.prog 70 C70 := B70.call rfl
/-! impl.NodeOk$1: function 143 -/
noncomputable def f_impl_NodeOk_1 (x0 : Int) (x1 : List Int) (x2 : Bool) : Option (Bool) :=
  (f_impl_FrameOk x0 x1 x2).bind fun y202 =>
  some (!y202)
noncomputable def C143 : Con := ⟨[(.B, true, [(.int .i64), (.sl R0), .bool])], [(false, [.bool])], [(.int .i64), (.sl R0), .bool], [.bool], fun (p : Int × List Int × Bool) => f_impl_NodeOk_1 p.1 p.2.1 p.2.2⟩
noncomputable abbrev K143 : Cons := [(70, C70)]
noncomputable abbrev L143 : List (Nat × Loops) := []
abbrev Q143 : List (Nat × List (Int × Nat) × Nat) := []
noncomputable abbrev X143 : Nat → Ctx := ctxOf tb K143 L143 Q143
theorem E143 : ∀ x, funRun fs X143 6 143 C143 x = C143.fn x := fun x => by kernel_rfl
theorem B143 : ConB Try.prog 143 C143 := ConB.make FS MIX TY (cons := K143) (L := L143) (ptrs := Q143) ⟨S70, trivial⟩ trivial trivial rfl rfl E143
theorem S143 : ConS Try.prog 143 C143 := B143.call rfl
/-! impl.HomeOk$1: function 172 -/
noncomputable def f_impl_HomeOk_1 (x0 : Int) (x1 : Bool) (x2 : Int) : Option (Bool) :=
  (f_impl_isOf x0 x2).bind fun y203 =>
  some (!y203)
noncomputable def C172 : Con := ⟨[(.B, true, [(.int .i64), .bool]), (.Q, false, [(.int .i64)])], [(false, [.bool])], [(.int .i64), .bool, (.int .i64)], [.bool], fun (p : Int × Bool × Int) => f_impl_HomeOk_1 p.1 p.2.1 p.2.2⟩
noncomputable abbrev K172 : Cons := [(141, C141)]
noncomputable abbrev L172 : List (Nat × Loops) := []
abbrev Q172 : List (Nat × List (Int × Nat) × Nat) := []
noncomputable abbrev X172 : Nat → Ctx := ctxOf tb K172 L172 Q172
theorem E172 : ∀ x, funG fs X172 6 172 C172 x = C172.fn x := fun x => by kernel_rfl
theorem B172 : ConG Try.prog 172 C172 := ConG.make FS MIX TY (cons := K172) (L := L172) (ptrs := Q172) ⟨S141, trivial⟩ trivial trivial rfl (by kernel_rfl) E172
theorem S172 : ConS Try.prog 172 C172 := B172.call (by kernel_rfl)
/-! impl.HomeOk: function 146 -/
noncomputable def f_impl_HomeOk.l0 : Nat → (List (Int × Bool)) → Int → Int → Int → (List Int) → Int → (List Bool) → Bool → Int → Bool → Int → (List (Int × Bool)) → Int → Option ((Int × List Int × Int × List Bool × Bool × Int × Bool × Int × (List (Int × Bool)) × Int) ⊕ (Int × List Int × Int × List Bool × Bool × Int × Bool × Int × (List (Int × Bool)) × Int))
  | 0, _, _, _, _, _, _, _, _, _, _, _, _, _ => none
  | n + 1, p209, p210, p211, p212, p213, p214, p215, p216, p217, p218, p219, p220, p221 =>
    bif (decide (p212 < p211)) then
      bif ((decide ((0 : Int) ≤ p212)) && (decide (p212 < (p209.length : Int)))) then
      (f_impl_HomeOk_1 ((p209.getD p212.toNat (0, false)).1) ((p209.getD p212.toNat (0, false)).2) p221).bind fun y222 =>
      bif y222 then
        some (.inl (p212, p213, p214, p215, p216, p217, p218, p219, p220, p221))
      else
        f_impl_HomeOk.l0 n p209 p210 p211 (IntKind.wrap .i64 (p212 + (1 : Int))) p213 p214 p215 p216 p217 p218 p219 p220 p221
      else none
    else
      some (.inr (p210, p213, p214, p215, p216, p217, p218, p219, p220, p221))
noncomputable def f_impl_HomeOk (x0 : List Int) (x1 : Int) (x2 : List Bool) (x3 : Bool) (x4 : Int) (x5 : Bool) (x6 : Int) (x7 : List (Int × Bool)) (x8 : Int) : Option (Bool) :=
  (f_impl_from x8 1 4).bind fun y204 =>
  bif y204 then
    (f_impl_wordsOk x0 4).bind fun y205 =>
    bif y205 then
      (f_impl_from x1 (-1) (IntKind.wrap .i64 (x8 - (1 : Int)))).bind fun y206 =>
      bif y206 then
        bif (decide ((x2.length : Int) = x8)) then
          (f_impl_isOf x4 x8).bind fun y207 =>
          bif y207 then
            (f_impl_from x6 0 x8).bind fun y208 =>
            bif y208 then
              bif (decide ((x7.length : Int) ≤ (12 : Int))) then
                (f_impl_HomeOk.l0 N x7 0 (x7.length : Int) 0 x0 x1 x2 x3 x4 x5 x6 x7 x8).bind fun r223 =>
                cs r223 (fun a224 =>
                  some (!(decide ((0 : Int) ≤ a224.1)))) (fun b225 =>
                  some true)
              else
                some false
            else
              some false
          else
            some false
        else
          some false
      else
        some false
    else
      some false
  else
    some false
noncomputable def C146 : Con := ⟨[(.B, true, [(.sl R0), (.int .i64), (.sl R2), .bool, (.int .i64), .bool, (.int .i64), (.sl R3)]), (.B, false, [(.int .i64)])], [(false, [.bool])], [(.sl R0), (.int .i64), (.sl R2), .bool, (.int .i64), .bool, (.int .i64), (.sl R3), (.int .i64)], [.bool], fun (p : List Int × Int × List Bool × Bool × Int × Bool × Int × (List (Int × Bool)) × Int) => f_impl_HomeOk p.1 p.2.1 p.2.2.1 p.2.2.2.1 p.2.2.2.2.1 p.2.2.2.2.2.1 p.2.2.2.2.2.2.1 p.2.2.2.2.2.2.2.1 p.2.2.2.2.2.2.2.2⟩
noncomputable def f_impl_HomeOk.l0.c : LoopCon := ⟨1921, 4, [0, 1, 4, 7, 8], ⟨[(0, .bor none R3 []), (1, .func 172 [.ptr 1025 0]), (4, .int .i64 0), (7, .int .i64 0), (8, .int .i64 0)], [(1009, .box [.bor (some 0) R0 [], .int .i64 0, .bor (some 2) R2 [], .bool false, .int .i64 0, .bool false, .int .i64 0, .bor (some 7) R3 []]), (1025, .box [.int .i64 0])], 1921⟩, [(.sl R3), (.int .i64), (.int .i64), (.int .i64), (.sl R0), (.int .i64), (.sl R2), .bool, (.int .i64), .bool, (.int .i64), (.sl R3), (.int .i64)], [⟨.ret, [4], ⟨[(4, .int .i64 0)], [(1009, .box [.bor (some 0) R0 [], .int .i64 0, .bor (some 2) R2 [], .bool false, .int .i64 0, .bool false, .int .i64 0, .bor (some 7) R3 []]), (1025, .box [.int .i64 0])], 1921⟩, [(.int .i64), (.sl R0), (.int .i64), (.sl R2), .bool, (.int .i64), .bool, (.int .i64), (.sl R3), (.int .i64)]⟩, ⟨.exit 0, [4], ⟨[(4, .int .i64 0)], [(1009, .box [.bor (some 0) R0 [], .int .i64 0, .bor (some 2) R2 [], .bool false, .int .i64 0, .bool false, .int .i64 0, .bor (some 7) R3 []]), (1025, .box [.int .i64 0])], 1921⟩, [(.int .i64), (.sl R0), (.int .i64), (.sl R2), .bool, (.int .i64), .bool, (.int .i64), (.sl R3), (.int .i64)]⟩], fun (p : (List (Int × Bool)) × Int × Int × Int × List Int × Int × List Bool × Bool × Int × Bool × Int × (List (Int × Bool)) × Int) => f_impl_HomeOk.l0 N p.1 p.2.1 p.2.2.1 p.2.2.2.1 p.2.2.2.2.1 p.2.2.2.2.2.1 p.2.2.2.2.2.2.1 p.2.2.2.2.2.2.2.1 p.2.2.2.2.2.2.2.2.1 p.2.2.2.2.2.2.2.2.2.1 p.2.2.2.2.2.2.2.2.2.2.1 p.2.2.2.2.2.2.2.2.2.2.2.1 p.2.2.2.2.2.2.2.2.2.2.2.2⟩
noncomputable abbrev K146 : Cons := [(118, C118), (125, C125), (141, C141), (172, C172)]
noncomputable abbrev L146 : List (Nat × Loops) := [(189, [(2, f_impl_HomeOk.l0.c)])]
abbrev Q146 : List (Nat × List (Int × Nat) × Nat) := []
noncomputable abbrev X146 : Nat → Ctx := ctxOf tb K146 L146 Q146
theorem f_impl_HomeOk.l0.ok : ∀ n p, (fun (p : (List (Int × Bool)) × Int × Int × Int × List Int × Int × List Bool × Bool × Int × Bool × Int × (List (Int × Bool)) × Int) => f_impl_HomeOk.l0 n p.1 p.2.1 p.2.2.1 p.2.2.2.1 p.2.2.2.2.1 p.2.2.2.2.2.1 p.2.2.2.2.2.2.1 p.2.2.2.2.2.2.2.1 p.2.2.2.2.2.2.2.2.1 p.2.2.2.2.2.2.2.2.2.1 p.2.2.2.2.2.2.2.2.2.2.1 p.2.2.2.2.2.2.2.2.2.2.2.1 p.2.2.2.2.2.2.2.2.2.2.2.2) p = iterD (roundOf fs X146 4 189 2 true f_impl_HomeOk.l0.c) n p :=
  iter_of (l := fun n => fun (p : (List (Int × Bool)) × Int × Int × Int × List Int × Int × List Bool × Bool × Int × Bool × Int × (List (Int × Bool)) × Int) => f_impl_HomeOk.l0 n p.1 p.2.1 p.2.2.1 p.2.2.2.1 p.2.2.2.2.1 p.2.2.2.2.2.1 p.2.2.2.2.2.2.1 p.2.2.2.2.2.2.2.1 p.2.2.2.2.2.2.2.2.1 p.2.2.2.2.2.2.2.2.2.1 p.2.2.2.2.2.2.2.2.2.2.1 p.2.2.2.2.2.2.2.2.2.2.2.1 p.2.2.2.2.2.2.2.2.2.2.2.2) (fun _ => rfl) (fun n p => by kernel_rfl)
theorem E146 : ∀ x, funRun fs X146 6 146 C146 x = C146.fn x := fun x => by kernel_rfl
theorem B146 : ConB Try.prog 146 C146 := ConB.make FS MIX TY (cons := K146) (L := L146) (ptrs := Q146) ⟨S118, S125, S141, S172, trivial⟩ trivial ⟨⟨⟨N, fun p => f_impl_HomeOk.l0.ok N p⟩, trivial⟩, trivial⟩ rfl rfl E146
theorem S146 : ConS Try.prog 146 C146 := B146.call rfl
/-! impl.NodeOk$2: function 145 -/
noncomputable def f_impl_NodeOk_2 (x0 : List Int) (x1 : Int) (x2 : List Bool) (x3 : Bool) (x4 : Int) (x5 : Bool) (x6 : Int) (x7 : List (Int × Bool)) (x8 : Int) : Option (Bool) :=
  (f_impl_HomeOk x0 x1 x2 x3 x4 x5 x6 x7 x8).bind fun y226 =>
  some (!y226)
noncomputable def C145 : Con := ⟨[(.B, true, [(.sl R0), (.int .i64), (.sl R2), .bool, (.int .i64), .bool, (.int .i64), (.sl R3)]), (.Q, false, [(.int .i64)])], [(false, [.bool])], [(.sl R0), (.int .i64), (.sl R2), .bool, (.int .i64), .bool, (.int .i64), (.sl R3), (.int .i64)], [.bool], fun (p : List Int × Int × List Bool × Bool × Int × Bool × Int × (List (Int × Bool)) × Int) => f_impl_NodeOk_2 p.1 p.2.1 p.2.2.1 p.2.2.2.1 p.2.2.2.2.1 p.2.2.2.2.2.1 p.2.2.2.2.2.2.1 p.2.2.2.2.2.2.2.1 p.2.2.2.2.2.2.2.2⟩
noncomputable abbrev K145 : Cons := [(146, C146)]
noncomputable abbrev L145 : List (Nat × Loops) := []
abbrev Q145 : List (Nat × List (Int × Nat) × Nat) := []
noncomputable abbrev X145 : Nat → Ctx := ctxOf tb K145 L145 Q145
theorem E145 : ∀ x, funG fs X145 6 145 C145 x = C145.fn x := fun x => by kernel_rfl
theorem B145 : ConG Try.prog 145 C145 := ConG.make FS MIX TY (cons := K145) (L := L145) (ptrs := Q145) ⟨S146, trivial⟩ trivial trivial rfl (by kernel_rfl) E145
theorem S145 : ConS Try.prog 145 C145 := B145.call (by kernel_rfl)
/-! impl.isSeq: function 152 -/
noncomputable def f_impl_isSeq (x0 : Int) : Option (Bool) :=
  (f_impl_from x0 0 100000).bind fun y227 =>
  some y227
noncomputable def C152 : Con := ⟨[(.B, false, [(.int .i64)])], [(false, [.bool])], [(.int .i64)], [.bool], fun (p : Int) => f_impl_isSeq p⟩
noncomputable abbrev K152 : Cons := [(118, C118)]
noncomputable abbrev L152 : List (Nat × Loops) := []
abbrev Q152 : List (Nat × List (Int × Nat) × Nat) := []
noncomputable abbrev X152 : Nat → Ctx := ctxOf tb K152 L152 Q152
theorem E152 : ∀ x, funRun fs X152 6 152 C152 x = C152.fn x := fun x => by kernel_rfl
theorem B152 : ConB Try.prog 152 C152 := ConB.make FS MIX TY (cons := K152) (L := L152) (ptrs := Q152) ⟨S118, trivial⟩ trivial trivial rfl rfl E152
theorem S152 : ConS Try.prog 152 C152 := B152.call rfl
/-! impl.isPage: function 157 -/
noncomputable def f_impl_isPage (x0 : Int) : Option (Bool) :=
  (f_impl_from x0 0 5).bind fun y228 =>
  some y228
noncomputable def C157 : Con := ⟨[(.B, false, [(.int .i64)])], [(false, [.bool])], [(.int .i64)], [.bool], fun (p : Int) => f_impl_isPage p⟩
noncomputable abbrev K157 : Cons := [(118, C118)]
noncomputable abbrev L157 : List (Nat × Loops) := []
abbrev Q157 : List (Nat × List (Int × Nat) × Nat) := []
noncomputable abbrev X157 : Nat → Ctx := ctxOf tb K157 L157 Q157
theorem E157 : ∀ x, funRun fs X157 6 157 C157 x = C157.fn x := fun x => by kernel_rfl
theorem B157 : ConB Try.prog 157 C157 := ConB.make FS MIX TY (cons := K157) (L := L157) (ptrs := Q157) ⟨S118, trivial⟩ trivial trivial rfl rfl E157
theorem S157 : ConS Try.prog 157 C157 := B157.call rfl
/-! impl.MsgOk: function 93 -/
noncomputable def f_impl_MsgOk (x0 : Int) (x1 : Int) (x2 : Bool) (x3 : List Int) : Option (Bool) :=
  (f_impl_from x0 1 7).bind fun y229 =>
  bif (!y229) then
    some false
  else
    (f_impl_isPage x1).bind fun y230 =>
    bif (!y230) then
      some false
    else
      bif x2 then
        bif (!(decide (x0 = (3 : Int)))) then
          bif (!(decide (x0 = (6 : Int)))) then
            some false
          else
            bif (decide (x0 = (3 : Int))) then
              (f_impl_wordsOk x3 4).bind fun y231 =>
              some y231
            else
              bif (decide (x0 = (7 : Int))) then
                (f_impl_wordsOk x3 4).bind fun y232 =>
                some y232
              else
                some (decide ((x3.length : Int) = (0 : Int)))
        else
          bif (decide (x0 = (3 : Int))) then
            (f_impl_wordsOk x3 4).bind fun y233 =>
            some y233
          else
            bif (decide (x0 = (7 : Int))) then
              (f_impl_wordsOk x3 4).bind fun y234 =>
              some y234
            else
              some (decide ((x3.length : Int) = (0 : Int)))
      else
        bif (decide (x0 = (3 : Int))) then
          (f_impl_wordsOk x3 4).bind fun y235 =>
          some y235
        else
          bif (decide (x0 = (7 : Int))) then
            (f_impl_wordsOk x3 4).bind fun y236 =>
            some y236
          else
            some (decide ((x3.length : Int) = (0 : Int)))
noncomputable def C93 : Con := ⟨[(.B, true, [(.int .i64), (.int .i64), .bool, (.sl R0)])], [(false, [.bool])], [(.int .i64), (.int .i64), .bool, (.sl R0)], [.bool], fun (p : Int × Int × Bool × List Int) => f_impl_MsgOk p.1 p.2.1 p.2.2.1 p.2.2.2⟩
noncomputable abbrev K93 : Cons := [(118, C118), (125, C125), (157, C157)]
noncomputable abbrev L93 : List (Nat × Loops) := []
abbrev Q93 : List (Nat × List (Int × Nat) × Nat) := []
noncomputable abbrev X93 : Nat → Ctx := ctxOf tb K93 L93 Q93
theorem E93 : ∀ x, funRun fs X93 6 93 C93 x = C93.fn x := fun x => by kernel_rfl
theorem B93 : ConB Try.prog 93 C93 := ConB.make FS MIX TY (cons := K93) (L := L93) (ptrs := Q93) ⟨S118, S125, S157, trivial⟩ trivial trivial rfl rfl E93
theorem S93 : ConS Try.prog 93 C93 := B93.call rfl
/-! impl.SenderOk$1: function 175 -/
noncomputable def f_impl_SenderOk_1 (x0 : Int) (x1 : Int) (x2 : Bool) (x3 : List Int) : Option (Bool) :=
  (f_impl_MsgOk x0 x1 x2 x3).bind fun y237 =>
  some (!y237)
noncomputable def C175 : Con := ⟨[(.B, true, [(.int .i64), (.int .i64), .bool, (.sl R0)])], [(false, [.bool])], [(.int .i64), (.int .i64), .bool, (.sl R0)], [.bool], fun (p : Int × Int × Bool × List Int) => f_impl_SenderOk_1 p.1 p.2.1 p.2.2.1 p.2.2.2⟩
noncomputable abbrev K175 : Cons := [(93, C93)]
noncomputable abbrev L175 : List (Nat × Loops) := []
abbrev Q175 : List (Nat × List (Int × Nat) × Nat) := []
noncomputable abbrev X175 : Nat → Ctx := ctxOf tb K175 L175 Q175
theorem E175 : ∀ x, funRun fs X175 6 175 C175 x = C175.fn x := fun x => by kernel_rfl
theorem B175 : ConB Try.prog 175 C175 := ConB.make FS MIX TY (cons := K175) (L := L175) (ptrs := Q175) ⟨S93, trivial⟩ trivial trivial rfl rfl E175
theorem S175 : ConS Try.prog 175 C175 := B175.call rfl
/-! impl.SenderOk: function 149 -/
noncomputable def f_impl_SenderOk.l0 : Nat → (List (Int × Int × Bool × List Int)) → Int → Int → Int → Int → (List (Int × Int × Bool × List Int)) → Option ((Int × Int × (List (Int × Int × Bool × List Int))) ⊕ (Int × Int × (List (Int × Int × Bool × List Int))))
  | 0, _, _, _, _, _, _ => none
  | n + 1, p239, p240, p241, p242, p243, p244 =>
    bif (decide (p242 < p241)) then
      bif ((decide ((0 : Int) ≤ p242)) && (decide (p242 < (p239.length : Int)))) then
      (f_impl_SenderOk_1 ((p239.getD p242.toNat (0, 0, false, [])).1) ((p239.getD p242.toNat (0, 0, false, [])).2.1) ((p239.getD p242.toNat (0, 0, false, [])).2.2.1) ((p239.getD p242.toNat (0, 0, false, [])).2.2.2)).bind fun y245 =>
      bif y245 then
        some (.inl (p242, p243, p244))
      else
        f_impl_SenderOk.l0 n p239 p240 p241 (IntKind.wrap .i64 (p242 + (1 : Int))) p243 p244
      else none
    else
      some (.inr (p240, p243, p244))
noncomputable def f_impl_SenderOk (x0 : Int) (x1 : List (Int × Int × Bool × List Int)) : Option (Bool) :=
  (f_impl_isSeq x0).bind fun y238 =>
  bif y238 then
    bif (decide ((x1.length : Int) ≤ (30 : Int))) then
      bif (decide ((IntKind.wrap .i64 (x0 + (x1.length : Int))) ≤ (100000 : Int))) then
        (f_impl_SenderOk.l0 N x1 0 (x1.length : Int) 0 x0 x1).bind fun r246 =>
        cs r246 (fun a247 =>
          some (!(decide ((0 : Int) ≤ a247.1)))) (fun b248 =>
          some true)
      else
        some false
    else
      some false
  else
    some false
noncomputable def C149 : Con := ⟨[(.B, true, [(.int .i64), (.sl R5)])], [(false, [.bool])], [(.int .i64), (.sl R5)], [.bool], fun (p : Int × (List (Int × Int × Bool × List Int))) => f_impl_SenderOk p.1 p.2⟩
noncomputable def f_impl_SenderOk.l0.c : LoopCon := ⟨1530, 4, [0, 1, 4, 7, 8], ⟨[(0, .bor none R5 []), (1, .func 175 []), (4, .int .i64 0), (7, .int .i64 0), (8, .int .i64 0)], [(1002, .box [.int .i64 0, .bor (some 1) R5 []])], 1530⟩, [(.sl R5), (.int .i64), (.int .i64), (.int .i64), (.int .i64), (.sl R5)], [⟨.ret, [4], ⟨[(4, .int .i64 0)], [(1002, .box [.int .i64 0, .bor (some 1) R5 []])], 1530⟩, [(.int .i64), (.int .i64), (.sl R5)]⟩, ⟨.exit 0, [4], ⟨[(4, .int .i64 0)], [(1002, .box [.int .i64 0, .bor (some 1) R5 []])], 1530⟩, [(.int .i64), (.int .i64), (.sl R5)]⟩], fun (p : (List (Int × Int × Bool × List Int)) × Int × Int × Int × Int × (List (Int × Int × Bool × List Int))) => f_impl_SenderOk.l0 N p.1 p.2.1 p.2.2.1 p.2.2.2.1 p.2.2.2.2.1 p.2.2.2.2.2⟩
noncomputable abbrev K149 : Cons := [(152, C152), (175, C175)]
noncomputable abbrev L149 : List (Nat × Loops) := [(190, [(2, f_impl_SenderOk.l0.c)])]
abbrev Q149 : List (Nat × List (Int × Nat) × Nat) := []
noncomputable abbrev X149 : Nat → Ctx := ctxOf tb K149 L149 Q149
theorem f_impl_SenderOk.l0.ok : ∀ n p, (fun (p : (List (Int × Int × Bool × List Int)) × Int × Int × Int × Int × (List (Int × Int × Bool × List Int))) => f_impl_SenderOk.l0 n p.1 p.2.1 p.2.2.1 p.2.2.2.1 p.2.2.2.2.1 p.2.2.2.2.2) p = iterD (roundOf fs X149 4 190 2 true f_impl_SenderOk.l0.c) n p :=
  iter_of (l := fun n => fun (p : (List (Int × Int × Bool × List Int)) × Int × Int × Int × Int × (List (Int × Int × Bool × List Int))) => f_impl_SenderOk.l0 n p.1 p.2.1 p.2.2.1 p.2.2.2.1 p.2.2.2.2.1 p.2.2.2.2.2) (fun _ => rfl) (fun n p => by kernel_rfl)
theorem E149 : ∀ x, funRun fs X149 6 149 C149 x = C149.fn x := fun x => by kernel_rfl
theorem B149 : ConB Try.prog 149 C149 := ConB.make FS MIX TY (cons := K149) (L := L149) (ptrs := Q149) ⟨S152, S175, trivial⟩ trivial ⟨⟨⟨N, fun p => f_impl_SenderOk.l0.ok N p⟩, trivial⟩, trivial⟩ rfl rfl E149
theorem S149 : ConS Try.prog 149 C149 := B149.call rfl
/-! impl.NodeOk$3: function 148 -/
noncomputable def f_impl_NodeOk_3 (x0 : Int) (x1 : List (Int × Int × Bool × List Int)) : Option (Bool) :=
  (f_impl_SenderOk x0 x1).bind fun y249 =>
  some (!y249)
noncomputable def C148 : Con := ⟨[(.B, true, [(.int .i64), (.sl R5)])], [(false, [.bool])], [(.int .i64), (.sl R5)], [.bool], fun (p : Int × (List (Int × Int × Bool × List Int))) => f_impl_NodeOk_3 p.1 p.2⟩
noncomputable abbrev K148 : Cons := [(149, C149)]
noncomputable abbrev L148 : List (Nat × Loops) := []
abbrev Q148 : List (Nat × List (Int × Nat) × Nat) := []
noncomputable abbrev X148 : Nat → Ctx := ctxOf tb K148 L148 Q148
theorem E148 : ∀ x, funRun fs X148 6 148 C148 x = C148.fn x := fun x => by kernel_rfl
theorem B148 : ConB Try.prog 148 C148 := ConB.make FS MIX TY (cons := K148) (L := L148) (ptrs := Q148) ⟨S149, trivial⟩ trivial trivial rfl rfl E148
theorem S148 : ConS Try.prog 148 C148 := B148.call rfl
/-! impl.NodeOk$4: function 151 -/
noncomputable def f_impl_NodeOk_4 (x0 : Int) : Option (Bool) :=
  (f_impl_isSeq x0).bind fun y250 =>
  some (!y250)
noncomputable def C151 : Con := ⟨[(.B, true, [(.int .i64)])], [(false, [.bool])], [(.int .i64)], [.bool], fun (p : Int) => f_impl_NodeOk_4 p⟩
noncomputable abbrev K151 : Cons := [(152, C152)]
noncomputable abbrev L151 : List (Nat × Loops) := []
abbrev Q151 : List (Nat × List (Int × Nat) × Nat) := []
noncomputable abbrev X151 : Nat → Ctx := ctxOf tb K151 L151 Q151
theorem E151 : ∀ x, funRun fs X151 6 151 C151 x = C151.fn x := fun x => by kernel_rfl
theorem B151 : ConB Try.prog 151 C151 := ConB.make FS MIX TY (cons := K151) (L := L151) (ptrs := Q151) ⟨S152, trivial⟩ trivial trivial rfl rfl E151
theorem S151 : ConS Try.prog 151 C151 := B151.call rfl
/-! impl.NodeOk: function 88 -/
noncomputable def f_impl_NodeOk.l9 : Nat → (List Int) → Int → Int → Int → Int → (List (Int × List Int × Bool)) → (List (List Int × Int × List Bool × Bool × Int × Bool × Int × (List (Int × Bool)))) → (List (Int × (List (Int × Int × Bool × List Int)))) → (List Int) → Int → Option ((Int × Int × (List (Int × List Int × Bool)) × (List (List Int × Int × List Bool × Bool × Int × Bool × Int × (List (Int × Bool)))) × (List (Int × (List (Int × Int × Bool × List Int)))) × List Int × Int) ⊕ (Int × Int × (List (Int × List Int × Bool)) × (List (List Int × Int × List Bool × Bool × Int × Bool × Int × (List (Int × Bool)))) × (List (Int × (List (Int × Int × Bool × List Int)))) × List Int × Int))
  | 0, _, _, _, _, _, _, _, _, _, _ => none
  | n + 1, p393, p394, p395, p396, p397, p398, p399, p400, p401, p402 =>
    bif (decide (p396 < p395)) then
      bif ((decide ((0 : Int) ≤ p396)) && (decide (p396 < (p393.length : Int)))) then
      (f_impl_NodeOk_4 (p393.getD p396.toNat 0)).bind fun y403 =>
      bif y403 then
        some (.inl (p396, p397, p398, p399, p400, p401, p402))
      else
        f_impl_NodeOk.l9 n p393 p394 p395 (IntKind.wrap .i64 (p396 + (1 : Int))) p397 p398 p399 p400 p401 p402
      else none
    else
      some (.inr (p394, p397, p398, p399, p400, p401, p402))
noncomputable def f_impl_NodeOk.l8 : Nat → (List (Int × (List (Int × Int × Bool × List Int)))) → Int → Int → Int → Int → (List (Int × List Int × Bool)) → (List (List Int × Int × List Bool × Bool × Int × Bool × Int × (List (Int × Bool)))) → (List (Int × (List (Int × Int × Bool × List Int)))) → (List Int) → Int → Option ((Int × Int × (List (Int × List Int × Bool)) × (List (List Int × Int × List Bool × Bool × Int × Bool × Int × (List (Int × Bool)))) × (List (Int × (List (Int × Int × Bool × List Int)))) × List Int × Int) ⊕ (Int × Int × (List (Int × List Int × Bool)) × (List (List Int × Int × List Bool × Bool × Int × Bool × Int × (List (Int × Bool)))) × (List (Int × (List (Int × Int × Bool × List Int)))) × List Int × Int))
  | 0, _, _, _, _, _, _, _, _, _, _ => none
  | n + 1, p376, p377, p378, p379, p380, p381, p382, p383, p384, p385 =>
    bif (decide (p379 < p378)) then
      bif ((decide ((0 : Int) ≤ p379)) && (decide (p379 < (p376.length : Int)))) then
      (f_impl_NodeOk_3 ((p376.getD p379.toNat (0, [])).1) ((p376.getD p379.toNat (0, [])).2)).bind fun y386 =>
      bif y386 then
        some (.inl (p379, p380, p381, p382, p383, p384, p385))
      else
        f_impl_NodeOk.l8 n p376 p377 p378 (IntKind.wrap .i64 (p379 + (1 : Int))) p380 p381 p382 p383 p384 p385
      else none
    else
      some (.inr (p377, p380, p381, p382, p383, p384, p385))
noncomputable def f_impl_NodeOk.l7 : Nat → (List (List Int × Int × List Bool × Bool × Int × Bool × Int × (List (Int × Bool)))) → Int → Int → Int → Int → (List (Int × List Int × Bool)) → (List (List Int × Int × List Bool × Bool × Int × Bool × Int × (List (Int × Bool)))) → (List (Int × (List (Int × Int × Bool × List Int)))) → (List Int) → Int → Option ((Int × Int × (List (Int × List Int × Bool)) × (List (List Int × Int × List Bool × Bool × Int × Bool × Int × (List (Int × Bool)))) × (List (Int × (List (Int × Int × Bool × List Int)))) × List Int × Int) ⊕ (Int × Int × (List (Int × List Int × Bool)) × (List (List Int × Int × List Bool × Bool × Int × Bool × Int × (List (Int × Bool)))) × (List (Int × (List (Int × Int × Bool × List Int)))) × List Int × Int))
  | 0, _, _, _, _, _, _, _, _, _, _ => none
  | n + 1, p353, p354, p355, p356, p357, p358, p359, p360, p361, p362 =>
    bif (decide (p356 < p355)) then
      bif ((decide ((0 : Int) ≤ p356)) && (decide (p356 < (p353.length : Int)))) then
      (f_impl_NodeOk_2 ((p353.getD p356.toNat ([], 0, [], false, 0, false, 0, [])).1) ((p353.getD p356.toNat ([], 0, [], false, 0, false, 0, [])).2.1) ((p353.getD p356.toNat ([], 0, [], false, 0, false, 0, [])).2.2.1) ((p353.getD p356.toNat ([], 0, [], false, 0, false, 0, [])).2.2.2.1) ((p353.getD p356.toNat ([], 0, [], false, 0, false, 0, [])).2.2.2.2.1) ((p353.getD p356.toNat ([], 0, [], false, 0, false, 0, [])).2.2.2.2.2.1) ((p353.getD p356.toNat ([], 0, [], false, 0, false, 0, [])).2.2.2.2.2.2.1) ((p353.getD p356.toNat ([], 0, [], false, 0, false, 0, [])).2.2.2.2.2.2.2) p362).bind fun y363 =>
      bif y363 then
        some (.inl (p356, p357, p358, p359, p360, p361, p362))
      else
        f_impl_NodeOk.l7 n p353 p354 p355 (IntKind.wrap .i64 (p356 + (1 : Int))) p357 p358 p359 p360 p361 p362
      else none
    else
      some (.inr (p354, p357, p358, p359, p360, p361, p362))
noncomputable def f_impl_NodeOk.l6 : Nat → (List Int) → Int → Int → Int → Int → (List (Int × List Int × Bool)) → (List (List Int × Int × List Bool × Bool × Int × Bool × Int × (List (Int × Bool)))) → (List (Int × (List (Int × Int × Bool × List Int)))) → (List Int) → Int → Option ((Int × Int × (List (Int × List Int × Bool)) × (List (List Int × Int × List Bool × Bool × Int × Bool × Int × (List (Int × Bool)))) × (List (Int × (List (Int × Int × Bool × List Int)))) × List Int × Int) ⊕ (Int × Int × (List (Int × List Int × Bool)) × (List (List Int × Int × List Bool × Bool × Int × Bool × Int × (List (Int × Bool)))) × (List (Int × (List (Int × Int × Bool × List Int)))) × List Int × Int))
  | 0, _, _, _, _, _, _, _, _, _, _ => none
  | n + 1, p339, p340, p341, p342, p343, p344, p345, p346, p347, p348 =>
    bif (decide (p342 < p341)) then
      bif ((decide ((0 : Int) ≤ p342)) && (decide (p342 < (p339.length : Int)))) then
      (f_impl_NodeOk_4 (p339.getD p342.toNat 0)).bind fun y349 =>
      bif y349 then
        some (.inl (p342, p343, p344, p345, p346, p347, p348))
      else
        f_impl_NodeOk.l6 n p339 p340 p341 (IntKind.wrap .i64 (p342 + (1 : Int))) p343 p344 p345 p346 p347 p348
      else none
    else
      some (.inr (p340, p343, p344, p345, p346, p347, p348))
noncomputable def f_impl_NodeOk.l5 : Nat → (List (Int × (List (Int × Int × Bool × List Int)))) → Int → Int → Int → Int → (List (Int × List Int × Bool)) → (List (List Int × Int × List Bool × Bool × Int × Bool × Int × (List (Int × Bool)))) → (List (Int × (List (Int × Int × Bool × List Int)))) → (List Int) → Int → Option ((Int × Int × (List (Int × List Int × Bool)) × (List (List Int × Int × List Bool × Bool × Int × Bool × Int × (List (Int × Bool)))) × (List (Int × (List (Int × Int × Bool × List Int)))) × List Int × Int) ⊕ (Int × Int × (List (Int × List Int × Bool)) × (List (List Int × Int × List Bool × Bool × Int × Bool × Int × (List (Int × Bool)))) × (List (Int × (List (Int × Int × Bool × List Int)))) × List Int × Int))
  | 0, _, _, _, _, _, _, _, _, _, _ => none
  | n + 1, p322, p323, p324, p325, p326, p327, p328, p329, p330, p331 =>
    bif (decide (p325 < p324)) then
      bif ((decide ((0 : Int) ≤ p325)) && (decide (p325 < (p322.length : Int)))) then
      (f_impl_NodeOk_3 ((p322.getD p325.toNat (0, [])).1) ((p322.getD p325.toNat (0, [])).2)).bind fun y332 =>
      bif y332 then
        some (.inl (p325, p326, p327, p328, p329, p330, p331))
      else
        f_impl_NodeOk.l5 n p322 p323 p324 (IntKind.wrap .i64 (p325 + (1 : Int))) p326 p327 p328 p329 p330 p331
      else none
    else
      some (.inr (p323, p326, p327, p328, p329, p330, p331))
noncomputable def f_impl_NodeOk.l4 : Nat → (List Int) → Int → Int → Int → Int → (List (Int × List Int × Bool)) → (List (List Int × Int × List Bool × Bool × Int × Bool × Int × (List (Int × Bool)))) → (List (Int × (List (Int × Int × Bool × List Int)))) → (List Int) → Int → Option ((Int × Int × (List (Int × List Int × Bool)) × (List (List Int × Int × List Bool × Bool × Int × Bool × Int × (List (Int × Bool)))) × (List (Int × (List (Int × Int × Bool × List Int)))) × List Int × Int) ⊕ (Int × Int × (List (Int × List Int × Bool)) × (List (List Int × Int × List Bool × Bool × Int × Bool × Int × (List (Int × Bool)))) × (List (Int × (List (Int × Int × Bool × List Int)))) × List Int × Int))
  | 0, _, _, _, _, _, _, _, _, _, _ => none
  | n + 1, p308, p309, p310, p311, p312, p313, p314, p315, p316, p317 =>
    bif (decide (p311 < p310)) then
      bif ((decide ((0 : Int) ≤ p311)) && (decide (p311 < (p308.length : Int)))) then
      (f_impl_NodeOk_4 (p308.getD p311.toNat 0)).bind fun y318 =>
      bif y318 then
        some (.inl (p311, p312, p313, p314, p315, p316, p317))
      else
        f_impl_NodeOk.l4 n p308 p309 p310 (IntKind.wrap .i64 (p311 + (1 : Int))) p312 p313 p314 p315 p316 p317
      else none
    else
      some (.inr (p309, p312, p313, p314, p315, p316, p317))
noncomputable def f_impl_NodeOk.l3 : Nat → (List Int) → Int → Int → Int → Int → (List (Int × List Int × Bool)) → (List (List Int × Int × List Bool × Bool × Int × Bool × Int × (List (Int × Bool)))) → (List (Int × (List (Int × Int × Bool × List Int)))) → (List Int) → Int → Option ((Int × Int × (List (Int × List Int × Bool)) × (List (List Int × Int × List Bool × Bool × Int × Bool × Int × (List (Int × Bool)))) × (List (Int × (List (Int × Int × Bool × List Int)))) × List Int × Int) ⊕ (Int × Int × (List (Int × List Int × Bool)) × (List (List Int × Int × List Bool × Bool × Int × Bool × Int × (List (Int × Bool)))) × (List (Int × (List (Int × Int × Bool × List Int)))) × List Int × Int))
  | 0, _, _, _, _, _, _, _, _, _, _ => none
  | n + 1, p294, p295, p296, p297, p298, p299, p300, p301, p302, p303 =>
    bif (decide (p297 < p296)) then
      bif ((decide ((0 : Int) ≤ p297)) && (decide (p297 < (p294.length : Int)))) then
      (f_impl_NodeOk_4 (p294.getD p297.toNat 0)).bind fun y304 =>
      bif y304 then
        some (.inl (p297, p298, p299, p300, p301, p302, p303))
      else
        f_impl_NodeOk.l3 n p294 p295 p296 (IntKind.wrap .i64 (p297 + (1 : Int))) p298 p299 p300 p301 p302 p303
      else none
    else
      some (.inr (p295, p298, p299, p300, p301, p302, p303))
noncomputable def f_impl_NodeOk.l2 : Nat → (List (Int × (List (Int × Int × Bool × List Int)))) → Int → Int → Int → Int → (List (Int × List Int × Bool)) → (List (List Int × Int × List Bool × Bool × Int × Bool × Int × (List (Int × Bool)))) → (List (Int × (List (Int × Int × Bool × List Int)))) → (List Int) → Int → Option ((Int × Int × (List (Int × List Int × Bool)) × (List (List Int × Int × List Bool × Bool × Int × Bool × Int × (List (Int × Bool)))) × (List (Int × (List (Int × Int × Bool × List Int)))) × List Int × Int) ⊕ (Int × Int × (List (Int × List Int × Bool)) × (List (List Int × Int × List Bool × Bool × Int × Bool × Int × (List (Int × Bool)))) × (List (Int × (List (Int × Int × Bool × List Int)))) × List Int × Int))
  | 0, _, _, _, _, _, _, _, _, _, _ => none
  | n + 1, p280, p281, p282, p283, p284, p285, p286, p287, p288, p289 =>
    bif (decide (p283 < p282)) then
      bif ((decide ((0 : Int) ≤ p283)) && (decide (p283 < (p280.length : Int)))) then
      (f_impl_NodeOk_3 ((p280.getD p283.toNat (0, [])).1) ((p280.getD p283.toNat (0, [])).2)).bind fun y290 =>
      bif y290 then
        some (.inl (p283, p284, p285, p286, p287, p288, p289))
      else
        f_impl_NodeOk.l2 n p280 p281 p282 (IntKind.wrap .i64 (p283 + (1 : Int))) p284 p285 p286 p287 p288 p289
      else none
    else
      some (.inr (p281, p284, p285, p286, p287, p288, p289))
noncomputable def f_impl_NodeOk.l1 : Nat → (List (List Int × Int × List Bool × Bool × Int × Bool × Int × (List (Int × Bool)))) → Int → Int → Int → Int → (List (Int × List Int × Bool)) → (List (List Int × Int × List Bool × Bool × Int × Bool × Int × (List (Int × Bool)))) → (List (Int × (List (Int × Int × Bool × List Int)))) → (List Int) → Int → Option ((Int × Int × (List (Int × List Int × Bool)) × (List (List Int × Int × List Bool × Bool × Int × Bool × Int × (List (Int × Bool)))) × (List (Int × (List (Int × Int × Bool × List Int)))) × List Int × Int) ⊕ (Int × Int × (List (Int × List Int × Bool)) × (List (List Int × Int × List Bool × Bool × Int × Bool × Int × (List (Int × Bool)))) × (List (Int × (List (Int × Int × Bool × List Int)))) × List Int × Int))
  | 0, _, _, _, _, _, _, _, _, _, _ => none
  | n + 1, p266, p267, p268, p269, p270, p271, p272, p273, p274, p275 =>
    bif (decide (p269 < p268)) then
      bif ((decide ((0 : Int) ≤ p269)) && (decide (p269 < (p266.length : Int)))) then
      (f_impl_NodeOk_2 ((p266.getD p269.toNat ([], 0, [], false, 0, false, 0, [])).1) ((p266.getD p269.toNat ([], 0, [], false, 0, false, 0, [])).2.1) ((p266.getD p269.toNat ([], 0, [], false, 0, false, 0, [])).2.2.1) ((p266.getD p269.toNat ([], 0, [], false, 0, false, 0, [])).2.2.2.1) ((p266.getD p269.toNat ([], 0, [], false, 0, false, 0, [])).2.2.2.2.1) ((p266.getD p269.toNat ([], 0, [], false, 0, false, 0, [])).2.2.2.2.2.1) ((p266.getD p269.toNat ([], 0, [], false, 0, false, 0, [])).2.2.2.2.2.2.1) ((p266.getD p269.toNat ([], 0, [], false, 0, false, 0, [])).2.2.2.2.2.2.2) p275).bind fun y276 =>
      bif y276 then
        some (.inl (p269, p270, p271, p272, p273, p274, p275))
      else
        f_impl_NodeOk.l1 n p266 p267 p268 (IntKind.wrap .i64 (p269 + (1 : Int))) p270 p271 p272 p273 p274 p275
      else none
    else
      some (.inr (p267, p270, p271, p272, p273, p274, p275))
noncomputable def f_impl_NodeOk.l0 : Nat → (List (Int × List Int × Bool)) → Int → Int → Int → Int → (List (Int × List Int × Bool)) → (List (List Int × Int × List Bool × Bool × Int × Bool × Int × (List (Int × Bool)))) → (List (Int × (List (Int × Int × Bool × List Int)))) → (List Int) → Int → Option ((Int × Int × (List (Int × List Int × Bool)) × (List (List Int × Int × List Bool × Bool × Int × Bool × Int × (List (Int × Bool)))) × (List (Int × (List (Int × Int × Bool × List Int)))) × List Int × Int) ⊕ (Int × Int × (List (Int × List Int × Bool)) × (List (List Int × Int × List Bool × Bool × Int × Bool × Int × (List (Int × Bool)))) × (List (Int × (List (Int × Int × Bool × List Int)))) × List Int × Int))
  | 0, _, _, _, _, _, _, _, _, _, _ => none
  | n + 1, p252, p253, p254, p255, p256, p257, p258, p259, p260, p261 =>
    bif (decide (p255 < p254)) then
      bif ((decide ((0 : Int) ≤ p255)) && (decide (p255 < (p252.length : Int)))) then
      (f_impl_NodeOk_1 ((p252.getD p255.toNat (0, [], false)).1) ((p252.getD p255.toNat (0, [], false)).2.1) ((p252.getD p255.toNat (0, [], false)).2.2)).bind fun y262 =>
      bif y262 then
        some (.inl (p255, p256, p257, p258, p259, p260, p261))
      else
        f_impl_NodeOk.l0 n p252 p253 p254 (IntKind.wrap .i64 (p255 + (1 : Int))) p256 p257 p258 p259 p260 p261
      else none
    else
      some (.inr (p253, p256, p257, p258, p259, p260, p261))
noncomputable def f_impl_NodeOk (x0 : Int) (x1 : List (Int × List Int × Bool)) (x2 : List (List Int × Int × List Bool × Bool × Int × Bool × Int × (List (Int × Bool)))) (x3 : List (Int × (List (Int × Int × Bool × List Int)))) (x4 : List Int) (x5 : Int) : Option (Bool) :=
  (f_impl_isOf x0 x5).bind fun y251 =>
  bif y251 then
    bif (decide ((x1.length : Int) = (6 : Int))) then
      bif (decide ((x2.length : Int) = (6 : Int))) then
        bif (decide ((x3.length : Int) = x5)) then
          bif (decide ((x4.length : Int) = x5)) then
            (f_impl_NodeOk.l0 N x1 0 (x1.length : Int) 0 x0 x1 x2 x3 x4 x5).bind fun r263 =>
            cs r263 (fun a264 =>
              bif (!(decide ((0 : Int) ≤ a264.1))) then
                (f_impl_NodeOk.l1 N a264.2.2.2.1 0 (a264.2.2.2.1.length : Int) 0 a264.2.1 a264.2.2.1 a264.2.2.2.1 a264.2.2.2.2.1 a264.2.2.2.2.2.1 a264.2.2.2.2.2.2).bind fun r277 =>
                cs r277 (fun a278 =>
                  bif (!(decide ((0 : Int) ≤ a278.1))) then
                    (f_impl_NodeOk.l2 N a278.2.2.2.2.1 0 (a278.2.2.2.2.1.length : Int) 0 a278.2.1 a278.2.2.1 a278.2.2.2.1 a278.2.2.2.2.1 a278.2.2.2.2.2.1 a278.2.2.2.2.2.2).bind fun r291 =>
                    cs r291 (fun a292 =>
                      bif (!(decide ((0 : Int) ≤ a292.1))) then
                        (f_impl_NodeOk.l3 N a292.2.2.2.2.2.1 0 (a292.2.2.2.2.2.1.length : Int) 0 a292.2.1 a292.2.2.1 a292.2.2.2.1 a292.2.2.2.2.1 a292.2.2.2.2.2.1 a292.2.2.2.2.2.2).bind fun r305 =>
                        cs r305 (fun a306 =>
                          some (!(decide ((0 : Int) ≤ a306.1)))) (fun b307 =>
                          some true)
                      else
                        some false) (fun b293 =>
                      (f_impl_NodeOk.l4 N b293.2.2.2.2.2.1 0 (b293.2.2.2.2.2.1.length : Int) 0 b293.2.1 b293.2.2.1 b293.2.2.2.1 b293.2.2.2.2.1 b293.2.2.2.2.2.1 b293.2.2.2.2.2.2).bind fun r319 =>
                      cs r319 (fun a320 =>
                        some (!(decide ((0 : Int) ≤ a320.1)))) (fun b321 =>
                        some true))
                  else
                    some false) (fun b279 =>
                  (f_impl_NodeOk.l5 N b279.2.2.2.2.1 0 (b279.2.2.2.2.1.length : Int) 0 b279.2.1 b279.2.2.1 b279.2.2.2.1 b279.2.2.2.2.1 b279.2.2.2.2.2.1 b279.2.2.2.2.2.2).bind fun r333 =>
                  cs r333 (fun a334 =>
                    bif (!(decide ((0 : Int) ≤ a334.1))) then
                      (f_impl_NodeOk.l4 N a334.2.2.2.2.2.1 0 (a334.2.2.2.2.2.1.length : Int) 0 a334.2.1 a334.2.2.1 a334.2.2.2.1 a334.2.2.2.2.1 a334.2.2.2.2.2.1 a334.2.2.2.2.2.2).bind fun r336 =>
                      cs r336 (fun a337 =>
                        some (!(decide ((0 : Int) ≤ a337.1)))) (fun b338 =>
                        some true)
                    else
                      some false) (fun b335 =>
                    (f_impl_NodeOk.l6 N b335.2.2.2.2.2.1 0 (b335.2.2.2.2.2.1.length : Int) 0 b335.2.1 b335.2.2.1 b335.2.2.2.1 b335.2.2.2.2.1 b335.2.2.2.2.2.1 b335.2.2.2.2.2.2).bind fun r350 =>
                    cs r350 (fun a351 =>
                      some (!(decide ((0 : Int) ≤ a351.1)))) (fun b352 =>
                      some true)))
              else
                some false) (fun b265 =>
              (f_impl_NodeOk.l7 N b265.2.2.2.1 0 (b265.2.2.2.1.length : Int) 0 b265.2.1 b265.2.2.1 b265.2.2.2.1 b265.2.2.2.2.1 b265.2.2.2.2.2.1 b265.2.2.2.2.2.2).bind fun r364 =>
              cs r364 (fun a365 =>
                bif (!(decide ((0 : Int) ≤ a365.1))) then
                  (f_impl_NodeOk.l5 N a365.2.2.2.2.1 0 (a365.2.2.2.2.1.length : Int) 0 a365.2.1 a365.2.2.1 a365.2.2.2.1 a365.2.2.2.2.1 a365.2.2.2.2.2.1 a365.2.2.2.2.2.2).bind fun r367 =>
                  cs r367 (fun a368 =>
                    bif (!(decide ((0 : Int) ≤ a368.1))) then
                      (f_impl_NodeOk.l4 N a368.2.2.2.2.2.1 0 (a368.2.2.2.2.2.1.length : Int) 0 a368.2.1 a368.2.2.1 a368.2.2.2.1 a368.2.2.2.2.1 a368.2.2.2.2.2.1 a368.2.2.2.2.2.2).bind fun r370 =>
                      cs r370 (fun a371 =>
                        some (!(decide ((0 : Int) ≤ a371.1)))) (fun b372 =>
                        some true)
                    else
                      some false) (fun b369 =>
                    (f_impl_NodeOk.l6 N b369.2.2.2.2.2.1 0 (b369.2.2.2.2.2.1.length : Int) 0 b369.2.1 b369.2.2.1 b369.2.2.2.1 b369.2.2.2.2.1 b369.2.2.2.2.2.1 b369.2.2.2.2.2.2).bind fun r373 =>
                    cs r373 (fun a374 =>
                      some (!(decide ((0 : Int) ≤ a374.1)))) (fun b375 =>
                      some true))
                else
                  some false) (fun b366 =>
                (f_impl_NodeOk.l8 N b366.2.2.2.2.1 0 (b366.2.2.2.2.1.length : Int) 0 b366.2.1 b366.2.2.1 b366.2.2.2.1 b366.2.2.2.2.1 b366.2.2.2.2.2.1 b366.2.2.2.2.2.2).bind fun r387 =>
                cs r387 (fun a388 =>
                  bif (!(decide ((0 : Int) ≤ a388.1))) then
                    (f_impl_NodeOk.l6 N a388.2.2.2.2.2.1 0 (a388.2.2.2.2.2.1.length : Int) 0 a388.2.1 a388.2.2.1 a388.2.2.2.1 a388.2.2.2.2.1 a388.2.2.2.2.2.1 a388.2.2.2.2.2.2).bind fun r390 =>
                    cs r390 (fun a391 =>
                      some (!(decide ((0 : Int) ≤ a391.1)))) (fun b392 =>
                      some true)
                  else
                    some false) (fun b389 =>
                  (f_impl_NodeOk.l9 N b389.2.2.2.2.2.1 0 (b389.2.2.2.2.2.1.length : Int) 0 b389.2.1 b389.2.2.1 b389.2.2.2.1 b389.2.2.2.2.1 b389.2.2.2.2.2.1 b389.2.2.2.2.2.2).bind fun r404 =>
                  cs r404 (fun a405 =>
                    some (!(decide ((0 : Int) ≤ a405.1)))) (fun b406 =>
                    some true))))
          else
            some false
        else
          some false
      else
        some false
    else
      some false
  else
    some false
noncomputable def C88 : Con := ⟨[(.B, true, [(.int .i64), (.sl R1), (.sl R4), (.sl R6), (.sl R0)]), (.B, false, [(.int .i64)])], [(false, [.bool])], [(.int .i64), (.sl R1), (.sl R4), (.sl R6), (.sl R0), (.int .i64)], [.bool], fun (p : Int × (List (Int × List Int × Bool)) × (List (List Int × Int × List Bool × Bool × Int × Bool × Int × (List (Int × Bool)))) × (List (Int × (List (Int × Int × Bool × List Int)))) × List Int × Int) => f_impl_NodeOk p.1 p.2.1 p.2.2.1 p.2.2.2.1 p.2.2.2.2.1 p.2.2.2.2.2⟩
noncomputable def f_impl_NodeOk.l0.c : LoopCon := ⟨2046, 4, [0, 1, 4, 7, 8], ⟨[(0, .bor none R1 []), (1, .func 143 []), (4, .int .i64 0), (7, .int .i64 0), (8, .int .i64 0)], [(1006, .box [.int .i64 0, .bor (some 1) R1 [], .bor (some 2) R4 [], .bor (some 3) R6 [], .bor (some 4) R0 []]), (1022, .box [.int .i64 0])], 2046⟩, [(.sl R1), (.int .i64), (.int .i64), (.int .i64), (.int .i64), (.sl R1), (.sl R4), (.sl R6), (.sl R0), (.int .i64)], [⟨.ret, [4], ⟨[(4, .int .i64 0)], [(1006, .box [.int .i64 0, .bor (some 1) R1 [], .bor (some 2) R4 [], .bor (some 3) R6 [], .bor (some 4) R0 []]), (1022, .box [.int .i64 0])], 2046⟩, [(.int .i64), (.int .i64), (.sl R1), (.sl R4), (.sl R6), (.sl R0), (.int .i64)]⟩, ⟨.exit 0, [4], ⟨[(4, .int .i64 0)], [(1006, .box [.int .i64 0, .bor (some 1) R1 [], .bor (some 2) R4 [], .bor (some 3) R6 [], .bor (some 4) R0 []]), (1022, .box [.int .i64 0])], 2046⟩, [(.int .i64), (.int .i64), (.sl R1), (.sl R4), (.sl R6), (.sl R0), (.int .i64)]⟩], fun (p : (List (Int × List Int × Bool)) × Int × Int × Int × Int × (List (Int × List Int × Bool)) × (List (List Int × Int × List Bool × Bool × Int × Bool × Int × (List (Int × Bool)))) × (List (Int × (List (Int × Int × Bool × List Int)))) × List Int × Int) => f_impl_NodeOk.l0 N p.1 p.2.1 p.2.2.1 p.2.2.2.1 p.2.2.2.2.1 p.2.2.2.2.2.1 p.2.2.2.2.2.2.1 p.2.2.2.2.2.2.2.1 p.2.2.2.2.2.2.2.2.1 p.2.2.2.2.2.2.2.2.2⟩
noncomputable def f_impl_NodeOk.l1.c : LoopCon := ⟨2142, 4, [0, 1, 4, 7, 8], ⟨[(0, .bor none R4 []), (1, .func 145 [.ptr 1022 0]), (4, .int .i64 0), (7, .int .i64 0), (8, .int .i64 0)], [(1006, .box [.int .i64 0, .bor (some 1) R1 [], .bor (some 2) R4 [], .bor (some 3) R6 [], .bor (some 4) R0 []]), (1022, .box [.int .i64 0])], 2142⟩, [(.sl R4), (.int .i64), (.int .i64), (.int .i64), (.int .i64), (.sl R1), (.sl R4), (.sl R6), (.sl R0), (.int .i64)], [⟨.ret, [4], ⟨[(4, .int .i64 0)], [(1006, .box [.int .i64 0, .bor (some 1) R1 [], .bor (some 2) R4 [], .bor (some 3) R6 [], .bor (some 4) R0 []]), (1022, .box [.int .i64 0])], 2142⟩, [(.int .i64), (.int .i64), (.sl R1), (.sl R4), (.sl R6), (.sl R0), (.int .i64)]⟩, ⟨.exit 0, [4], ⟨[(4, .int .i64 0)], [(1006, .box [.int .i64 0, .bor (some 1) R1 [], .bor (some 2) R4 [], .bor (some 3) R6 [], .bor (some 4) R0 []]), (1022, .box [.int .i64 0])], 2142⟩, [(.int .i64), (.int .i64), (.sl R1), (.sl R4), (.sl R6), (.sl R0), (.int .i64)]⟩], fun (p : (List (List Int × Int × List Bool × Bool × Int × Bool × Int × (List (Int × Bool)))) × Int × Int × Int × Int × (List (Int × List Int × Bool)) × (List (List Int × Int × List Bool × Bool × Int × Bool × Int × (List (Int × Bool)))) × (List (Int × (List (Int × Int × Bool × List Int)))) × List Int × Int) => f_impl_NodeOk.l1 N p.1 p.2.1 p.2.2.1 p.2.2.2.1 p.2.2.2.2.1 p.2.2.2.2.2.1 p.2.2.2.2.2.2.1 p.2.2.2.2.2.2.2.1 p.2.2.2.2.2.2.2.2.1 p.2.2.2.2.2.2.2.2.2⟩
noncomputable def f_impl_NodeOk.l2.c : LoopCon := ⟨2238, 4, [0, 1, 4, 7, 8], ⟨[(0, .bor none R6 []), (1, .func 148 []), (4, .int .i64 0), (7, .int .i64 0), (8, .int .i64 0)], [(1006, .box [.int .i64 0, .bor (some 1) R1 [], .bor (some 2) R4 [], .bor (some 3) R6 [], .bor (some 4) R0 []]), (1022, .box [.int .i64 0])], 2238⟩, [(.sl R6), (.int .i64), (.int .i64), (.int .i64), (.int .i64), (.sl R1), (.sl R4), (.sl R6), (.sl R0), (.int .i64)], [⟨.ret, [4], ⟨[(4, .int .i64 0)], [(1006, .box [.int .i64 0, .bor (some 1) R1 [], .bor (some 2) R4 [], .bor (some 3) R6 [], .bor (some 4) R0 []]), (1022, .box [.int .i64 0])], 2238⟩, [(.int .i64), (.int .i64), (.sl R1), (.sl R4), (.sl R6), (.sl R0), (.int .i64)]⟩, ⟨.exit 0, [4], ⟨[(4, .int .i64 0)], [(1006, .box [.int .i64 0, .bor (some 1) R1 [], .bor (some 2) R4 [], .bor (some 3) R6 [], .bor (some 4) R0 []]), (1022, .box [.int .i64 0])], 2238⟩, [(.int .i64), (.int .i64), (.sl R1), (.sl R4), (.sl R6), (.sl R0), (.int .i64)]⟩], fun (p : (List (Int × (List (Int × Int × Bool × List Int)))) × Int × Int × Int × Int × (List (Int × List Int × Bool)) × (List (List Int × Int × List Bool × Bool × Int × Bool × Int × (List (Int × Bool)))) × (List (Int × (List (Int × Int × Bool × List Int)))) × List Int × Int) => f_impl_NodeOk.l2 N p.1 p.2.1 p.2.2.1 p.2.2.2.1 p.2.2.2.2.1 p.2.2.2.2.2.1 p.2.2.2.2.2.2.1 p.2.2.2.2.2.2.2.1 p.2.2.2.2.2.2.2.2.1 p.2.2.2.2.2.2.2.2.2⟩
noncomputable def f_impl_NodeOk.l3.c : LoopCon := ⟨2334, 4, [0, 1, 4, 7, 8], ⟨[(0, .bor none R0 []), (1, .func 151 []), (4, .int .i64 0), (7, .int .i64 0), (8, .int .i64 0)], [(1006, .box [.int .i64 0, .bor (some 1) R1 [], .bor (some 2) R4 [], .bor (some 3) R6 [], .bor (some 4) R0 []]), (1022, .box [.int .i64 0])], 2334⟩, [(.sl R0), (.int .i64), (.int .i64), (.int .i64), (.int .i64), (.sl R1), (.sl R4), (.sl R6), (.sl R0), (.int .i64)], [⟨.ret, [4], ⟨[(4, .int .i64 0)], [(1006, .box [.int .i64 0, .bor (some 1) R1 [], .bor (some 2) R4 [], .bor (some 3) R6 [], .bor (some 4) R0 []]), (1022, .box [.int .i64 0])], 2334⟩, [(.int .i64), (.int .i64), (.sl R1), (.sl R4), (.sl R6), (.sl R0), (.int .i64)]⟩, ⟨.exit 0, [4], ⟨[(4, .int .i64 0)], [(1006, .box [.int .i64 0, .bor (some 1) R1 [], .bor (some 2) R4 [], .bor (some 3) R6 [], .bor (some 4) R0 []]), (1022, .box [.int .i64 0])], 2334⟩, [(.int .i64), (.int .i64), (.sl R1), (.sl R4), (.sl R6), (.sl R0), (.int .i64)]⟩], fun (p : List Int × Int × Int × Int × Int × (List (Int × List Int × Bool)) × (List (List Int × Int × List Bool × Bool × Int × Bool × Int × (List (Int × Bool)))) × (List (Int × (List (Int × Int × Bool × List Int)))) × List Int × Int) => f_impl_NodeOk.l3 N p.1 p.2.1 p.2.2.1 p.2.2.2.1 p.2.2.2.2.1 p.2.2.2.2.2.1 p.2.2.2.2.2.2.1 p.2.2.2.2.2.2.2.1 p.2.2.2.2.2.2.2.2.1 p.2.2.2.2.2.2.2.2.2⟩
noncomputable def f_impl_NodeOk.l4.c : LoopCon := ⟨2350, 4, [0, 1, 4, 7, 8], ⟨[(0, .bor none R0 []), (1, .func 151 []), (4, .int .i64 0), (7, .int .i64 0), (8, .int .i64 0)], [(1006, .box [.int .i64 0, .bor (some 1) R1 [], .bor (some 2) R4 [], .bor (some 3) R6 [], .bor (some 4) R0 []]), (1022, .box [.int .i64 0])], 2350⟩, [(.sl R0), (.int .i64), (.int .i64), (.int .i64), (.int .i64), (.sl R1), (.sl R4), (.sl R6), (.sl R0), (.int .i64)], [⟨.ret, [4], ⟨[(4, .int .i64 0)], [(1006, .box [.int .i64 0, .bor (some 1) R1 [], .bor (some 2) R4 [], .bor (some 3) R6 [], .bor (some 4) R0 []]), (1022, .box [.int .i64 0])], 2350⟩, [(.int .i64), (.int .i64), (.sl R1), (.sl R4), (.sl R6), (.sl R0), (.int .i64)]⟩, ⟨.exit 0, [4], ⟨[(4, .int .i64 0)], [(1006, .box [.int .i64 0, .bor (some 1) R1 [], .bor (some 2) R4 [], .bor (some 3) R6 [], .bor (some 4) R0 []]), (1022, .box [.int .i64 0])], 2350⟩, [(.int .i64), (.int .i64), (.sl R1), (.sl R4), (.sl R6), (.sl R0), (.int .i64)]⟩], fun (p : List Int × Int × Int × Int × Int × (List (Int × List Int × Bool)) × (List (List Int × Int × List Bool × Bool × Int × Bool × Int × (List (Int × Bool)))) × (List (Int × (List (Int × Int × Bool × List Int)))) × List Int × Int) => f_impl_NodeOk.l4 N p.1 p.2.1 p.2.2.1 p.2.2.2.1 p.2.2.2.2.1 p.2.2.2.2.2.1 p.2.2.2.2.2.2.1 p.2.2.2.2.2.2.2.1 p.2.2.2.2.2.2.2.2.1 p.2.2.2.2.2.2.2.2.2⟩
noncomputable def f_impl_NodeOk.l5.c : LoopCon := ⟨2254, 4, [0, 1, 4, 7, 8], ⟨[(0, .bor none R6 []), (1, .func 148 []), (4, .int .i64 0), (7, .int .i64 0), (8, .int .i64 0)], [(1006, .box [.int .i64 0, .bor (some 1) R1 [], .bor (some 2) R4 [], .bor (some 3) R6 [], .bor (some 4) R0 []]), (1022, .box [.int .i64 0])], 2254⟩, [(.sl R6), (.int .i64), (.int .i64), (.int .i64), (.int .i64), (.sl R1), (.sl R4), (.sl R6), (.sl R0), (.int .i64)], [⟨.ret, [4], ⟨[(4, .int .i64 0)], [(1006, .box [.int .i64 0, .bor (some 1) R1 [], .bor (some 2) R4 [], .bor (some 3) R6 [], .bor (some 4) R0 []]), (1022, .box [.int .i64 0])], 2254⟩, [(.int .i64), (.int .i64), (.sl R1), (.sl R4), (.sl R6), (.sl R0), (.int .i64)]⟩, ⟨.exit 0, [4], ⟨[(4, .int .i64 0)], [(1006, .box [.int .i64 0, .bor (some 1) R1 [], .bor (some 2) R4 [], .bor (some 3) R6 [], .bor (some 4) R0 []]), (1022, .box [.int .i64 0])], 2254⟩, [(.int .i64), (.int .i64), (.sl R1), (.sl R4), (.sl R6), (.sl R0), (.int .i64)]⟩], fun (p : (List (Int × (List (Int × Int × Bool × List Int)))) × Int × Int × Int × Int × (List (Int × List Int × Bool)) × (List (List Int × Int × List Bool × Bool × Int × Bool × Int × (List (Int × Bool)))) × (List (Int × (List (Int × Int × Bool × List Int)))) × List Int × Int) => f_impl_NodeOk.l5 N p.1 p.2.1 p.2.2.1 p.2.2.2.1 p.2.2.2.2.1 p.2.2.2.2.2.1 p.2.2.2.2.2.2.1 p.2.2.2.2.2.2.2.1 p.2.2.2.2.2.2.2.2.1 p.2.2.2.2.2.2.2.2.2⟩
noncomputable def f_impl_NodeOk.l6.c : LoopCon := ⟨2366, 4, [0, 1, 4, 7, 8], ⟨[(0, .bor none R0 []), (1, .func 151 []), (4, .int .i64 0), (7, .int .i64 0), (8, .int .i64 0)], [(1006, .box [.int .i64 0, .bor (some 1) R1 [], .bor (some 2) R4 [], .bor (some 3) R6 [], .bor (some 4) R0 []]), (1022, .box [.int .i64 0])], 2366⟩, [(.sl R0), (.int .i64), (.int .i64), (.int .i64), (.int .i64), (.sl R1), (.sl R4), (.sl R6), (.sl R0), (.int .i64)], [⟨.ret, [4], ⟨[(4, .int .i64 0)], [(1006, .box [.int .i64 0, .bor (some 1) R1 [], .bor (some 2) R4 [], .bor (some 3) R6 [], .bor (some 4) R0 []]), (1022, .box [.int .i64 0])], 2366⟩, [(.int .i64), (.int .i64), (.sl R1), (.sl R4), (.sl R6), (.sl R0), (.int .i64)]⟩, ⟨.exit 0, [4], ⟨[(4, .int .i64 0)], [(1006, .box [.int .i64 0, .bor (some 1) R1 [], .bor (some 2) R4 [], .bor (some 3) R6 [], .bor (some 4) R0 []]), (1022, .box [.int .i64 0])], 2366⟩, [(.int .i64), (.int .i64), (.sl R1), (.sl R4), (.sl R6), (.sl R0), (.int .i64)]⟩], fun (p : List Int × Int × Int × Int × Int × (List (Int × List Int × Bool)) × (List (List Int × Int × List Bool × Bool × Int × Bool × Int × (List (Int × Bool)))) × (List (Int × (List (Int × Int × Bool × List Int)))) × List Int × Int) => f_impl_NodeOk.l6 N p.1 p.2.1 p.2.2.1 p.2.2.2.1 p.2.2.2.2.1 p.2.2.2.2.2.1 p.2.2.2.2.2.2.1 p.2.2.2.2.2.2.2.1 p.2.2.2.2.2.2.2.2.1 p.2.2.2.2.2.2.2.2.2⟩
noncomputable def f_impl_NodeOk.l7.c : LoopCon := ⟨2158, 4, [0, 1, 4, 7, 8], ⟨[(0, .bor none R4 []), (1, .func 145 [.ptr 1022 0]), (4, .int .i64 0), (7, .int .i64 0), (8, .int .i64 0)], [(1006, .box [.int .i64 0, .bor (some 1) R1 [], .bor (some 2) R4 [], .bor (some 3) R6 [], .bor (some 4) R0 []]), (1022, .box [.int .i64 0])], 2158⟩, [(.sl R4), (.int .i64), (.int .i64), (.int .i64), (.int .i64), (.sl R1), (.sl R4), (.sl R6), (.sl R0), (.int .i64)], [⟨.ret, [4], ⟨[(4, .int .i64 0)], [(1006, .box [.int .i64 0, .bor (some 1) R1 [], .bor (some 2) R4 [], .bor (some 3) R6 [], .bor (some 4) R0 []]), (1022, .box [.int .i64 0])], 2158⟩, [(.int .i64), (.int .i64), (.sl R1), (.sl R4), (.sl R6), (.sl R0), (.int .i64)]⟩, ⟨.exit 0, [4], ⟨[(4, .int .i64 0)], [(1006, .box [.int .i64 0, .bor (some 1) R1 [], .bor (some 2) R4 [], .bor (some 3) R6 [], .bor (some 4) R0 []]), (1022, .box [.int .i64 0])], 2158⟩, [(.int .i64), (.int .i64), (.sl R1), (.sl R4), (.sl R6), (.sl R0), (.int .i64)]⟩], fun (p : (List (List Int × Int × List Bool × Bool × Int × Bool × Int × (List (Int × Bool)))) × Int × Int × Int × Int × (List (Int × List Int × Bool)) × (List (List Int × Int × List Bool × Bool × Int × Bool × Int × (List (Int × Bool)))) × (List (Int × (List (Int × Int × Bool × List Int)))) × List Int × Int) => f_impl_NodeOk.l7 N p.1 p.2.1 p.2.2.1 p.2.2.2.1 p.2.2.2.2.1 p.2.2.2.2.2.1 p.2.2.2.2.2.2.1 p.2.2.2.2.2.2.2.1 p.2.2.2.2.2.2.2.2.1 p.2.2.2.2.2.2.2.2.2⟩
noncomputable def f_impl_NodeOk.l8.c : LoopCon := ⟨2270, 4, [0, 1, 4, 7, 8], ⟨[(0, .bor none R6 []), (1, .func 148 []), (4, .int .i64 0), (7, .int .i64 0), (8, .int .i64 0)], [(1006, .box [.int .i64 0, .bor (some 1) R1 [], .bor (some 2) R4 [], .bor (some 3) R6 [], .bor (some 4) R0 []]), (1022, .box [.int .i64 0])], 2270⟩, [(.sl R6), (.int .i64), (.int .i64), (.int .i64), (.int .i64), (.sl R1), (.sl R4), (.sl R6), (.sl R0), (.int .i64)], [⟨.ret, [4], ⟨[(4, .int .i64 0)], [(1006, .box [.int .i64 0, .bor (some 1) R1 [], .bor (some 2) R4 [], .bor (some 3) R6 [], .bor (some 4) R0 []]), (1022, .box [.int .i64 0])], 2270⟩, [(.int .i64), (.int .i64), (.sl R1), (.sl R4), (.sl R6), (.sl R0), (.int .i64)]⟩, ⟨.exit 0, [4], ⟨[(4, .int .i64 0)], [(1006, .box [.int .i64 0, .bor (some 1) R1 [], .bor (some 2) R4 [], .bor (some 3) R6 [], .bor (some 4) R0 []]), (1022, .box [.int .i64 0])], 2270⟩, [(.int .i64), (.int .i64), (.sl R1), (.sl R4), (.sl R6), (.sl R0), (.int .i64)]⟩], fun (p : (List (Int × (List (Int × Int × Bool × List Int)))) × Int × Int × Int × Int × (List (Int × List Int × Bool)) × (List (List Int × Int × List Bool × Bool × Int × Bool × Int × (List (Int × Bool)))) × (List (Int × (List (Int × Int × Bool × List Int)))) × List Int × Int) => f_impl_NodeOk.l8 N p.1 p.2.1 p.2.2.1 p.2.2.2.1 p.2.2.2.2.1 p.2.2.2.2.2.1 p.2.2.2.2.2.2.1 p.2.2.2.2.2.2.2.1 p.2.2.2.2.2.2.2.2.1 p.2.2.2.2.2.2.2.2.2⟩
noncomputable def f_impl_NodeOk.l9.c : LoopCon := ⟨2382, 4, [0, 1, 4, 7, 8], ⟨[(0, .bor none R0 []), (1, .func 151 []), (4, .int .i64 0), (7, .int .i64 0), (8, .int .i64 0)], [(1006, .box [.int .i64 0, .bor (some 1) R1 [], .bor (some 2) R4 [], .bor (some 3) R6 [], .bor (some 4) R0 []]), (1022, .box [.int .i64 0])], 2382⟩, [(.sl R0), (.int .i64), (.int .i64), (.int .i64), (.int .i64), (.sl R1), (.sl R4), (.sl R6), (.sl R0), (.int .i64)], [⟨.ret, [4], ⟨[(4, .int .i64 0)], [(1006, .box [.int .i64 0, .bor (some 1) R1 [], .bor (some 2) R4 [], .bor (some 3) R6 [], .bor (some 4) R0 []]), (1022, .box [.int .i64 0])], 2382⟩, [(.int .i64), (.int .i64), (.sl R1), (.sl R4), (.sl R6), (.sl R0), (.int .i64)]⟩, ⟨.exit 0, [4], ⟨[(4, .int .i64 0)], [(1006, .box [.int .i64 0, .bor (some 1) R1 [], .bor (some 2) R4 [], .bor (some 3) R6 [], .bor (some 4) R0 []]), (1022, .box [.int .i64 0])], 2382⟩, [(.int .i64), (.int .i64), (.sl R1), (.sl R4), (.sl R6), (.sl R0), (.int .i64)]⟩], fun (p : List Int × Int × Int × Int × Int × (List (Int × List Int × Bool)) × (List (List Int × Int × List Bool × Bool × Int × Bool × Int × (List (Int × Bool)))) × (List (Int × (List (Int × Int × Bool × List Int)))) × List Int × Int) => f_impl_NodeOk.l9 N p.1 p.2.1 p.2.2.1 p.2.2.2.1 p.2.2.2.2.1 p.2.2.2.2.2.1 p.2.2.2.2.2.2.1 p.2.2.2.2.2.2.2.1 p.2.2.2.2.2.2.2.2.1 p.2.2.2.2.2.2.2.2.2⟩
noncomputable abbrev K88 : Cons := [(141, C141), (143, C143), (145, C145), (148, C148), (151, C151)]
noncomputable abbrev L88 : List (Nat × Loops) := [(169, [(2, f_impl_NodeOk.l0.c)]), (170, [(2, f_impl_NodeOk.l1.c), (2, f_impl_NodeOk.l7.c)]), (173, [(2, f_impl_NodeOk.l2.c), (2, f_impl_NodeOk.l5.c), (2, f_impl_NodeOk.l8.c)]), (176, [(2, f_impl_NodeOk.l3.c), (2, f_impl_NodeOk.l4.c), (2, f_impl_NodeOk.l6.c), (2, f_impl_NodeOk.l9.c)])]
abbrev Q88 : List (Nat × List (Int × Nat) × Nat) := []
noncomputable abbrev X88 : Nat → Ctx := ctxOf tb K88 L88 Q88
theorem f_impl_NodeOk.l0.ok : ∀ n p, (fun (p : (List (Int × List Int × Bool)) × Int × Int × Int × Int × (List (Int × List Int × Bool)) × (List (List Int × Int × List Bool × Bool × Int × Bool × Int × (List (Int × Bool)))) × (List (Int × (List (Int × Int × Bool × List Int)))) × List Int × Int) => f_impl_NodeOk.l0 n p.1 p.2.1 p.2.2.1 p.2.2.2.1 p.2.2.2.2.1 p.2.2.2.2.2.1 p.2.2.2.2.2.2.1 p.2.2.2.2.2.2.2.1 p.2.2.2.2.2.2.2.2.1 p.2.2.2.2.2.2.2.2.2) p = iterD (roundOf fs X88 4 169 2 true f_impl_NodeOk.l0.c) n p :=
  iter_of (l := fun n => fun (p : (List (Int × List Int × Bool)) × Int × Int × Int × Int × (List (Int × List Int × Bool)) × (List (List Int × Int × List Bool × Bool × Int × Bool × Int × (List (Int × Bool)))) × (List (Int × (List (Int × Int × Bool × List Int)))) × List Int × Int) => f_impl_NodeOk.l0 n p.1 p.2.1 p.2.2.1 p.2.2.2.1 p.2.2.2.2.1 p.2.2.2.2.2.1 p.2.2.2.2.2.2.1 p.2.2.2.2.2.2.2.1 p.2.2.2.2.2.2.2.2.1 p.2.2.2.2.2.2.2.2.2) (fun _ => rfl) (fun n p => by kernel_rfl)
theorem f_impl_NodeOk.l1.ok : ∀ n p, (fun (p : (List (List Int × Int × List Bool × Bool × Int × Bool × Int × (List (Int × Bool)))) × Int × Int × Int × Int × (List (Int × List Int × Bool)) × (List (List Int × Int × List Bool × Bool × Int × Bool × Int × (List (Int × Bool)))) × (List (Int × (List (Int × Int × Bool × List Int)))) × List Int × Int) => f_impl_NodeOk.l1 n p.1 p.2.1 p.2.2.1 p.2.2.2.1 p.2.2.2.2.1 p.2.2.2.2.2.1 p.2.2.2.2.2.2.1 p.2.2.2.2.2.2.2.1 p.2.2.2.2.2.2.2.2.1 p.2.2.2.2.2.2.2.2.2) p = iterD (roundOf fs X88 4 170 2 true f_impl_NodeOk.l1.c) n p :=
  iter_of (l := fun n => fun (p : (List (List Int × Int × List Bool × Bool × Int × Bool × Int × (List (Int × Bool)))) × Int × Int × Int × Int × (List (Int × List Int × Bool)) × (List (List Int × Int × List Bool × Bool × Int × Bool × Int × (List (Int × Bool)))) × (List (Int × (List (Int × Int × Bool × List Int)))) × List Int × Int) => f_impl_NodeOk.l1 n p.1 p.2.1 p.2.2.1 p.2.2.2.1 p.2.2.2.2.1 p.2.2.2.2.2.1 p.2.2.2.2.2.2.1 p.2.2.2.2.2.2.2.1 p.2.2.2.2.2.2.2.2.1 p.2.2.2.2.2.2.2.2.2) (fun _ => rfl) (fun n p => by kernel_rfl)
theorem f_impl_NodeOk.l2.ok : ∀ n p, (fun (p : (List (Int × (List (Int × Int × Bool × List Int)))) × Int × Int × Int × Int × (List (Int × List Int × Bool)) × (List (List Int × Int × List Bool × Bool × Int × Bool × Int × (List (Int × Bool)))) × (List (Int × (List (Int × Int × Bool × List Int)))) × List Int × Int) => f_impl_NodeOk.l2 n p.1 p.2.1 p.2.2.1 p.2.2.2.1 p.2.2.2.2.1 p.2.2.2.2.2.1 p.2.2.2.2.2.2.1 p.2.2.2.2.2.2.2.1 p.2.2.2.2.2.2.2.2.1 p.2.2.2.2.2.2.2.2.2) p = iterD (roundOf fs X88 4 173 2 true f_impl_NodeOk.l2.c) n p :=
  iter_of (l := fun n => fun (p : (List (Int × (List (Int × Int × Bool × List Int)))) × Int × Int × Int × Int × (List (Int × List Int × Bool)) × (List (List Int × Int × List Bool × Bool × Int × Bool × Int × (List (Int × Bool)))) × (List (Int × (List (Int × Int × Bool × List Int)))) × List Int × Int) => f_impl_NodeOk.l2 n p.1 p.2.1 p.2.2.1 p.2.2.2.1 p.2.2.2.2.1 p.2.2.2.2.2.1 p.2.2.2.2.2.2.1 p.2.2.2.2.2.2.2.1 p.2.2.2.2.2.2.2.2.1 p.2.2.2.2.2.2.2.2.2) (fun _ => rfl) (fun n p => by kernel_rfl)
theorem f_impl_NodeOk.l3.ok : ∀ n p, (fun (p : List Int × Int × Int × Int × Int × (List (Int × List Int × Bool)) × (List (List Int × Int × List Bool × Bool × Int × Bool × Int × (List (Int × Bool)))) × (List (Int × (List (Int × Int × Bool × List Int)))) × List Int × Int) => f_impl_NodeOk.l3 n p.1 p.2.1 p.2.2.1 p.2.2.2.1 p.2.2.2.2.1 p.2.2.2.2.2.1 p.2.2.2.2.2.2.1 p.2.2.2.2.2.2.2.1 p.2.2.2.2.2.2.2.2.1 p.2.2.2.2.2.2.2.2.2) p = iterD (roundOf fs X88 4 176 2 true f_impl_NodeOk.l3.c) n p :=
  iter_of (l := fun n => fun (p : List Int × Int × Int × Int × Int × (List (Int × List Int × Bool)) × (List (List Int × Int × List Bool × Bool × Int × Bool × Int × (List (Int × Bool)))) × (List (Int × (List (Int × Int × Bool × List Int)))) × List Int × Int) => f_impl_NodeOk.l3 n p.1 p.2.1 p.2.2.1 p.2.2.2.1 p.2.2.2.2.1 p.2.2.2.2.2.1 p.2.2.2.2.2.2.1 p.2.2.2.2.2.2.2.1 p.2.2.2.2.2.2.2.2.1 p.2.2.2.2.2.2.2.2.2) (fun _ => rfl) (fun n p => by kernel_rfl)
theorem f_impl_NodeOk.l4.ok : ∀ n p, (fun (p : List Int × Int × Int × Int × Int × (List (Int × List Int × Bool)) × (List (List Int × Int × List Bool × Bool × Int × Bool × Int × (List (Int × Bool)))) × (List (Int × (List (Int × Int × Bool × List Int)))) × List Int × Int) => f_impl_NodeOk.l4 n p.1 p.2.1 p.2.2.1 p.2.2.2.1 p.2.2.2.2.1 p.2.2.2.2.2.1 p.2.2.2.2.2.2.1 p.2.2.2.2.2.2.2.1 p.2.2.2.2.2.2.2.2.1 p.2.2.2.2.2.2.2.2.2) p = iterD (roundOf fs X88 4 176 2 true f_impl_NodeOk.l4.c) n p :=
  iter_of (l := fun n => fun (p : List Int × Int × Int × Int × Int × (List (Int × List Int × Bool)) × (List (List Int × Int × List Bool × Bool × Int × Bool × Int × (List (Int × Bool)))) × (List (Int × (List (Int × Int × Bool × List Int)))) × List Int × Int) => f_impl_NodeOk.l4 n p.1 p.2.1 p.2.2.1 p.2.2.2.1 p.2.2.2.2.1 p.2.2.2.2.2.1 p.2.2.2.2.2.2.1 p.2.2.2.2.2.2.2.1 p.2.2.2.2.2.2.2.2.1 p.2.2.2.2.2.2.2.2.2) (fun _ => rfl) (fun n p => by kernel_rfl)
theorem f_impl_NodeOk.l5.ok : ∀ n p, (fun (p : (List (Int × (List (Int × Int × Bool × List Int)))) × Int × Int × Int × Int × (List (Int × List Int × Bool)) × (List (List Int × Int × List Bool × Bool × Int × Bool × Int × (List (Int × Bool)))) × (List (Int × (List (Int × Int × Bool × List Int)))) × List Int × Int) => f_impl_NodeOk.l5 n p.1 p.2.1 p.2.2.1 p.2.2.2.1 p.2.2.2.2.1 p.2.2.2.2.2.1 p.2.2.2.2.2.2.1 p.2.2.2.2.2.2.2.1 p.2.2.2.2.2.2.2.2.1 p.2.2.2.2.2.2.2.2.2) p = iterD (roundOf fs X88 4 173 2 true f_impl_NodeOk.l5.c) n p :=
  iter_of (l := fun n => fun (p : (List (Int × (List (Int × Int × Bool × List Int)))) × Int × Int × Int × Int × (List (Int × List Int × Bool)) × (List (List Int × Int × List Bool × Bool × Int × Bool × Int × (List (Int × Bool)))) × (List (Int × (List (Int × Int × Bool × List Int)))) × List Int × Int) => f_impl_NodeOk.l5 n p.1 p.2.1 p.2.2.1 p.2.2.2.1 p.2.2.2.2.1 p.2.2.2.2.2.1 p.2.2.2.2.2.2.1 p.2.2.2.2.2.2.2.1 p.2.2.2.2.2.2.2.2.1 p.2.2.2.2.2.2.2.2.2) (fun _ => rfl) (fun n p => by kernel_rfl)
theorem f_impl_NodeOk.l6.ok : ∀ n p, (fun (p : List Int × Int × Int × Int × Int × (List (Int × List Int × Bool)) × (List (List Int × Int × List Bool × Bool × Int × Bool × Int × (List (Int × Bool)))) × (List (Int × (List (Int × Int × Bool × List Int)))) × List Int × Int) => f_impl_NodeOk.l6 n p.1 p.2.1 p.2.2.1 p.2.2.2.1 p.2.2.2.2.1 p.2.2.2.2.2.1 p.2.2.2.2.2.2.1 p.2.2.2.2.2.2.2.1 p.2.2.2.2.2.2.2.2.1 p.2.2.2.2.2.2.2.2.2) p = iterD (roundOf fs X88 4 176 2 true f_impl_NodeOk.l6.c) n p :=
  iter_of (l := fun n => fun (p : List Int × Int × Int × Int × Int × (List (Int × List Int × Bool)) × (List (List Int × Int × List Bool × Bool × Int × Bool × Int × (List (Int × Bool)))) × (List (Int × (List (Int × Int × Bool × List Int)))) × List Int × Int) => f_impl_NodeOk.l6 n p.1 p.2.1 p.2.2.1 p.2.2.2.1 p.2.2.2.2.1 p.2.2.2.2.2.1 p.2.2.2.2.2.2.1 p.2.2.2.2.2.2.2.1 p.2.2.2.2.2.2.2.2.1 p.2.2.2.2.2.2.2.2.2) (fun _ => rfl) (fun n p => by kernel_rfl)
theorem f_impl_NodeOk.l7.ok : ∀ n p, (fun (p : (List (List Int × Int × List Bool × Bool × Int × Bool × Int × (List (Int × Bool)))) × Int × Int × Int × Int × (List (Int × List Int × Bool)) × (List (List Int × Int × List Bool × Bool × Int × Bool × Int × (List (Int × Bool)))) × (List (Int × (List (Int × Int × Bool × List Int)))) × List Int × Int) => f_impl_NodeOk.l7 n p.1 p.2.1 p.2.2.1 p.2.2.2.1 p.2.2.2.2.1 p.2.2.2.2.2.1 p.2.2.2.2.2.2.1 p.2.2.2.2.2.2.2.1 p.2.2.2.2.2.2.2.2.1 p.2.2.2.2.2.2.2.2.2) p = iterD (roundOf fs X88 4 170 2 true f_impl_NodeOk.l7.c) n p :=
  iter_of (l := fun n => fun (p : (List (List Int × Int × List Bool × Bool × Int × Bool × Int × (List (Int × Bool)))) × Int × Int × Int × Int × (List (Int × List Int × Bool)) × (List (List Int × Int × List Bool × Bool × Int × Bool × Int × (List (Int × Bool)))) × (List (Int × (List (Int × Int × Bool × List Int)))) × List Int × Int) => f_impl_NodeOk.l7 n p.1 p.2.1 p.2.2.1 p.2.2.2.1 p.2.2.2.2.1 p.2.2.2.2.2.1 p.2.2.2.2.2.2.1 p.2.2.2.2.2.2.2.1 p.2.2.2.2.2.2.2.2.1 p.2.2.2.2.2.2.2.2.2) (fun _ => rfl) (fun n p => by kernel_rfl)
theorem f_impl_NodeOk.l8.ok : ∀ n p, (fun (p : (List (Int × (List (Int × Int × Bool × List Int)))) × Int × Int × Int × Int × (List (Int × List Int × Bool)) × (List (List Int × Int × List Bool × Bool × Int × Bool × Int × (List (Int × Bool)))) × (List (Int × (List (Int × Int × Bool × List Int)))) × List Int × Int) => f_impl_NodeOk.l8 n p.1 p.2.1 p.2.2.1 p.2.2.2.1 p.2.2.2.2.1 p.2.2.2.2.2.1 p.2.2.2.2.2.2.1 p.2.2.2.2.2.2.2.1 p.2.2.2.2.2.2.2.2.1 p.2.2.2.2.2.2.2.2.2) p = iterD (roundOf fs X88 4 173 2 true f_impl_NodeOk.l8.c) n p :=
  iter_of (l := fun n => fun (p : (List (Int × (List (Int × Int × Bool × List Int)))) × Int × Int × Int × Int × (List (Int × List Int × Bool)) × (List (List Int × Int × List Bool × Bool × Int × Bool × Int × (List (Int × Bool)))) × (List (Int × (List (Int × Int × Bool × List Int)))) × List Int × Int) => f_impl_NodeOk.l8 n p.1 p.2.1 p.2.2.1 p.2.2.2.1 p.2.2.2.2.1 p.2.2.2.2.2.1 p.2.2.2.2.2.2.1 p.2.2.2.2.2.2.2.1 p.2.2.2.2.2.2.2.2.1 p.2.2.2.2.2.2.2.2.2) (fun _ => rfl) (fun n p => by kernel_rfl)
theorem f_impl_NodeOk.l9.ok : ∀ n p, (fun (p : List Int × Int × Int × Int × Int × (List (Int × List Int × Bool)) × (List (List Int × Int × List Bool × Bool × Int × Bool × Int × (List (Int × Bool)))) × (List (Int × (List (Int × Int × Bool × List Int)))) × List Int × Int) => f_impl_NodeOk.l9 n p.1 p.2.1 p.2.2.1 p.2.2.2.1 p.2.2.2.2.1 p.2.2.2.2.2.1 p.2.2.2.2.2.2.1 p.2.2.2.2.2.2.2.1 p.2.2.2.2.2.2.2.2.1 p.2.2.2.2.2.2.2.2.2) p = iterD (roundOf fs X88 4 176 2 true f_impl_NodeOk.l9.c) n p :=
  iter_of (l := fun n => fun (p : List Int × Int × Int × Int × Int × (List (Int × List Int × Bool)) × (List (List Int × Int × List Bool × Bool × Int × Bool × Int × (List (Int × Bool)))) × (List (Int × (List (Int × Int × Bool × List Int)))) × List Int × Int) => f_impl_NodeOk.l9 n p.1 p.2.1 p.2.2.1 p.2.2.2.1 p.2.2.2.2.1 p.2.2.2.2.2.1 p.2.2.2.2.2.2.1 p.2.2.2.2.2.2.2.1 p.2.2.2.2.2.2.2.2.1 p.2.2.2.2.2.2.2.2.2) (fun _ => rfl) (fun n p => by kernel_rfl)
theorem E88 : ∀ x, funRun fs X88 6 88 C88 x = C88.fn x := fun x => by kernel_rfl
theorem B88 : ConB Try.prog 88 C88 := ConB.make FS MIX TY (cons := K88) (L := L88) (ptrs := Q88) ⟨S141, S143, S145, S148, S151, trivial⟩ trivial ⟨⟨⟨N, fun p => f_impl_NodeOk.l0.ok N p⟩, trivial⟩, ⟨⟨N, fun p => f_impl_NodeOk.l1.ok N p⟩, ⟨N, fun p => f_impl_NodeOk.l7.ok N p⟩, trivial⟩, ⟨⟨N, fun p => f_impl_NodeOk.l2.ok N p⟩, ⟨N, fun p => f_impl_NodeOk.l5.ok N p⟩, ⟨N, fun p => f_impl_NodeOk.l8.ok N p⟩, trivial⟩, ⟨⟨N, fun p => f_impl_NodeOk.l3.ok N p⟩, ⟨N, fun p => f_impl_NodeOk.l4.ok N p⟩, ⟨N, fun p => f_impl_NodeOk.l6.ok N p⟩, ⟨N, fun p => f_impl_NodeOk.l9.ok N p⟩, trivial⟩, trivial⟩ rfl rfl E88
theorem S88 : ConS Try.prog 88 C88 := B88.call rfl
/-! laws.eqIntS: function 27 -/
noncomputable def f_laws_eqIntS.l0 : Nat → (List Int) → (List Int) → Bool → Int → Option ((Bool) ⊕ (Bool))
  | 0, _, _, _, _ => none
  | n + 1, p407, p408, p409, p410 =>
    bif (decide (p410 < (p407.length : Int))) then
      bif ((decide ((0 : Int) ≤ p410)) && (decide (p410 < (p407.length : Int)))) then
      bif ((decide ((0 : Int) ≤ p410)) && (decide (p410 < (p408.length : Int)))) then
      bif (!(decide ((p407.getD p410.toNat 0) = (p408.getD p410.toNat 0)))) then
        some (.inl false)
      else
        f_laws_eqIntS.l0 n p407 p408 p409 (IntKind.wrap .i64 (p410 + (1 : Int)))
      else none
      else none
    else
      some (.inr p409)
noncomputable def f_laws_eqIntS (x0 : List Int) (x1 : List Int) : Option (Bool) :=
  bif (!(decide ((x0.length : Int) = (x1.length : Int)))) then
    some false
  else
    (f_laws_eqIntS.l0 N x0 x1 false 0).bind fun r411 =>
    cs r411 (fun a412 =>
      some a412) (fun b413 =>
      some true)
noncomputable def C27 : Con := ⟨[(.B, false, [(.sl R0)]), (.B, false, [(.sl R0)])], [(false, [.bool])], [(.sl R0), (.sl R0)], [.bool], fun (p : List Int × List Int) => f_laws_eqIntS p.1 p.2⟩
noncomputable def f_laws_eqIntS.l0.c : LoopCon := ⟨1000, 6, [0, 1, 4, 5], ⟨[(0, .bor none R0 []), (1, .bor none R0 []), (4, .bool false), (5, .int .i64 0)], [], 1000⟩, [(.sl R0), (.sl R0), .bool, (.int .i64)], [⟨.ret, [4], ⟨[(4, .bool false)], [], 1000⟩, [.bool]⟩, ⟨.exit 0, [4], ⟨[(4, .bool false)], [], 1000⟩, [.bool]⟩], fun (p : List Int × List Int × Bool × Int) => f_laws_eqIntS.l0 N p.1 p.2.1 p.2.2.1 p.2.2.2⟩
noncomputable abbrev K27 : Cons := []
noncomputable abbrev L27 : List (Nat × Loops) := [(27, [(4, f_laws_eqIntS.l0.c)])]
abbrev Q27 : List (Nat × List (Int × Nat) × Nat) := []
noncomputable abbrev X27 : Nat → Ctx := ctxOf tb K27 L27 Q27
theorem f_laws_eqIntS.l0.ok : ∀ n p, (fun (p : List Int × List Int × Bool × Int) => f_laws_eqIntS.l0 n p.1 p.2.1 p.2.2.1 p.2.2.2) p = iterD (roundOf fs X27 6 27 4 false f_laws_eqIntS.l0.c) n p :=
  iter_of (l := fun n => fun (p : List Int × List Int × Bool × Int) => f_laws_eqIntS.l0 n p.1 p.2.1 p.2.2.1 p.2.2.2) (fun _ => rfl) (fun n p => by kernel_rfl)
theorem E27 : ∀ x, funRun fs X27 6 27 C27 x = C27.fn x := fun x => by kernel_rfl
theorem B27 : ConB Try.prog 27 C27 := ConB.make FS MIX TY (cons := K27) (L := L27) (ptrs := Q27) trivial trivial ⟨⟨⟨N, fun p => f_laws_eqIntS.l0.ok N p⟩, trivial⟩, trivial⟩ rfl rfl E27
theorem S27 : ConS Try.prog 27 C27 := B27.call rfl
/-! laws.eqFrame: function 35 -/
noncomputable def f_laws_eqFrame (x0 : Int) (x1 : List Int) (x2 : Bool) (x3 : Int) (x4 : List Int) (x5 : Bool) : Option (Bool) :=
  bif (!(decide (x0 = x3))) then
    some false
  else
    (f_laws_eqIntS x1 x4).bind fun y414 =>
    bif (!y414) then
      some false
    else
      bif (!(x2 == x5)) then
        some false
      else
        some true
noncomputable def C35 : Con := ⟨[(.B, true, [(.int .i64), (.sl R0), .bool]), (.B, true, [(.int .i64), (.sl R0), .bool])], [(false, [.bool])], [(.int .i64), (.sl R0), .bool, (.int .i64), (.sl R0), .bool], [.bool], fun (p : Int × List Int × Bool × Int × List Int × Bool) => f_laws_eqFrame p.1 p.2.1 p.2.2.1 p.2.2.2.1 p.2.2.2.2.1 p.2.2.2.2.2⟩
noncomputable abbrev K35 : Cons := [(27, C27)]
noncomputable abbrev L35 : List (Nat × Loops) := []
abbrev Q35 : List (Nat × List (Int × Nat) × Nat) := []
noncomputable abbrev X35 : Nat → Ctx := ctxOf tb K35 L35 Q35
theorem E35 : ∀ x, funRun fs X35 6 35 C35 x = C35.fn x := fun x => by kernel_rfl
theorem B35 : ConB Try.prog 35 C35 := ConB.make FS MIX TY (cons := K35) (L := L35) (ptrs := Q35) ⟨S27, trivial⟩ trivial trivial rfl rfl E35
theorem S35 : ConS Try.prog 35 C35 := B35.call rfl
/-! laws.eqFrameS: function 153 -/
noncomputable def f_laws_eqFrameS.l0 : Nat → (List (Int × List Int × Bool)) → (List (Int × List Int × Bool)) → Bool → Int → Option ((Bool) ⊕ (Bool))
  | 0, _, _, _, _ => none
  | n + 1, p415, p416, p417, p418 =>
    bif (decide (p418 < (p415.length : Int))) then
      bif ((decide ((0 : Int) ≤ p418)) && (decide (p418 < (p415.length : Int)))) then
      bif ((decide ((0 : Int) ≤ p418)) && (decide (p418 < (p416.length : Int)))) then
      (f_laws_eqFrame ((p415.getD p418.toNat (0, [], false)).1) ((p415.getD p418.toNat (0, [], false)).2.1) ((p415.getD p418.toNat (0, [], false)).2.2) ((p416.getD p418.toNat (0, [], false)).1) ((p416.getD p418.toNat (0, [], false)).2.1) ((p416.getD p418.toNat (0, [], false)).2.2)).bind fun y419 =>
      bif (!y419) then
        some (.inl false)
      else
        f_laws_eqFrameS.l0 n p415 p416 p417 (IntKind.wrap .i64 (p418 + (1 : Int)))
      else none
      else none
    else
      some (.inr p417)
noncomputable def f_laws_eqFrameS (x0 : List (Int × List Int × Bool)) (x1 : List (Int × List Int × Bool)) : Option (Bool) :=
  bif (!(decide ((x0.length : Int) = (x1.length : Int)))) then
    some false
  else
    (f_laws_eqFrameS.l0 N x0 x1 false 0).bind fun r420 =>
    cs r420 (fun a421 =>
      some a421) (fun b422 =>
      some true)
noncomputable def C153 : Con := ⟨[(.B, false, [(.sl R1)]), (.B, false, [(.sl R1)])], [(false, [.bool])], [(.sl R1), (.sl R1)], [.bool], fun (p : (List (Int × List Int × Bool)) × (List (Int × List Int × Bool))) => f_laws_eqFrameS p.1 p.2⟩
noncomputable def f_laws_eqFrameS.l0.c : LoopCon := ⟨1000, 6, [0, 1, 4, 5], ⟨[(0, .bor none R1 []), (1, .bor none R1 []), (4, .bool false), (5, .int .i64 0)], [], 1000⟩, [(.sl R1), (.sl R1), .bool, (.int .i64)], [⟨.ret, [4], ⟨[(4, .bool false)], [], 1000⟩, [.bool]⟩, ⟨.exit 0, [4], ⟨[(4, .bool false)], [], 1000⟩, [.bool]⟩], fun (p : (List (Int × List Int × Bool)) × (List (Int × List Int × Bool)) × Bool × Int) => f_laws_eqFrameS.l0 N p.1 p.2.1 p.2.2.1 p.2.2.2⟩
noncomputable abbrev K153 : Cons := [(35, C35)]
noncomputable abbrev L153 : List (Nat × Loops) := [(153, [(4, f_laws_eqFrameS.l0.c)])]
abbrev Q153 : List (Nat × List (Int × Nat) × Nat) := []
noncomputable abbrev X153 : Nat → Ctx := ctxOf tb K153 L153 Q153
theorem f_laws_eqFrameS.l0.ok : ∀ n p, (fun (p : (List (Int × List Int × Bool)) × (List (Int × List Int × Bool)) × Bool × Int) => f_laws_eqFrameS.l0 n p.1 p.2.1 p.2.2.1 p.2.2.2) p = iterD (roundOf fs X153 6 153 4 false f_laws_eqFrameS.l0.c) n p :=
  iter_of (l := fun n => fun (p : (List (Int × List Int × Bool)) × (List (Int × List Int × Bool)) × Bool × Int) => f_laws_eqFrameS.l0 n p.1 p.2.1 p.2.2.1 p.2.2.2) (fun _ => rfl) (fun n p => by kernel_rfl)
theorem E153 : ∀ x, funRun fs X153 6 153 C153 x = C153.fn x := fun x => by kernel_rfl
theorem B153 : ConB Try.prog 153 C153 := ConB.make FS MIX TY (cons := K153) (L := L153) (ptrs := Q153) ⟨S35, trivial⟩ trivial ⟨⟨⟨N, fun p => f_laws_eqFrameS.l0.ok N p⟩, trivial⟩, trivial⟩ rfl rfl E153
theorem S153 : ConS Try.prog 153 C153 := B153.call rfl
/-! laws.eqBoolS: function 191 -/
noncomputable def f_laws_eqBoolS.l0 : Nat → (List Bool) → (List Bool) → Bool → Int → Option ((Bool) ⊕ (Bool))
  | 0, _, _, _, _ => none
  | n + 1, p423, p424, p425, p426 =>
    bif (decide (p426 < (p423.length : Int))) then
      bif ((decide ((0 : Int) ≤ p426)) && (decide (p426 < (p423.length : Int)))) then
      bif ((decide ((0 : Int) ≤ p426)) && (decide (p426 < (p424.length : Int)))) then
      bif (!((p423.getD p426.toNat false) == (p424.getD p426.toNat false))) then
        some (.inl false)
      else
        f_laws_eqBoolS.l0 n p423 p424 p425 (IntKind.wrap .i64 (p426 + (1 : Int)))
      else none
      else none
    else
      some (.inr p425)
noncomputable def f_laws_eqBoolS (x0 : List Bool) (x1 : List Bool) : Option (Bool) :=
  bif (!(decide ((x0.length : Int) = (x1.length : Int)))) then
    some false
  else
    (f_laws_eqBoolS.l0 N x0 x1 false 0).bind fun r427 =>
    cs r427 (fun a428 =>
      some a428) (fun b429 =>
      some true)
noncomputable def C191 : Con := ⟨[(.B, false, [(.sl R2)]), (.B, false, [(.sl R2)])], [(false, [.bool])], [(.sl R2), (.sl R2)], [.bool], fun (p : List Bool × List Bool) => f_laws_eqBoolS p.1 p.2⟩
noncomputable def f_laws_eqBoolS.l0.c : LoopCon := ⟨1000, 6, [0, 1, 4, 5], ⟨[(0, .bor none R2 []), (1, .bor none R2 []), (4, .bool false), (5, .int .i64 0)], [], 1000⟩, [(.sl R2), (.sl R2), .bool, (.int .i64)], [⟨.ret, [4], ⟨[(4, .bool false)], [], 1000⟩, [.bool]⟩, ⟨.exit 0, [4], ⟨[(4, .bool false)], [], 1000⟩, [.bool]⟩], fun (p : List Bool × List Bool × Bool × Int) => f_laws_eqBoolS.l0 N p.1 p.2.1 p.2.2.1 p.2.2.2⟩
noncomputable abbrev K191 : Cons := []
noncomputable abbrev L191 : List (Nat × Loops) := [(191, [(4, f_laws_eqBoolS.l0.c)])]
abbrev Q191 : List (Nat × List (Int × Nat) × Nat) := []
noncomputable abbrev X191 : Nat → Ctx := ctxOf tb K191 L191 Q191
theorem f_laws_eqBoolS.l0.ok : ∀ n p, (fun (p : List Bool × List Bool × Bool × Int) => f_laws_eqBoolS.l0 n p.1 p.2.1 p.2.2.1 p.2.2.2) p = iterD (roundOf fs X191 6 191 4 false f_laws_eqBoolS.l0.c) n p :=
  iter_of (l := fun n => fun (p : List Bool × List Bool × Bool × Int) => f_laws_eqBoolS.l0 n p.1 p.2.1 p.2.2.1 p.2.2.2) (fun _ => rfl) (fun n p => by kernel_rfl)
theorem E191 : ∀ x, funRun fs X191 6 191 C191 x = C191.fn x := fun x => by kernel_rfl
theorem B191 : ConB Try.prog 191 C191 := ConB.make FS MIX TY (cons := K191) (L := L191) (ptrs := Q191) trivial trivial ⟨⟨⟨N, fun p => f_laws_eqBoolS.l0.ok N p⟩, trivial⟩, trivial⟩ rfl rfl E191
theorem S191 : ConS Try.prog 191 C191 := B191.call rfl
/-! laws.eqWait: function 192 -/
noncomputable def f_laws_eqWait (x0 : Int) (x1 : Bool) (x2 : Int) (x3 : Bool) : Option (Bool) :=
  bif (!(decide (x0 = x2))) then
    some false
  else
    bif (!(x1 == x3)) then
      some false
    else
      some true
noncomputable def C192 : Con := ⟨[(.B, true, [(.int .i64), .bool]), (.B, true, [(.int .i64), .bool])], [(false, [.bool])], [(.int .i64), .bool, (.int .i64), .bool], [.bool], fun (p : Int × Bool × Int × Bool) => f_laws_eqWait p.1 p.2.1 p.2.2.1 p.2.2.2⟩
noncomputable abbrev K192 : Cons := []
noncomputable abbrev L192 : List (Nat × Loops) := []
abbrev Q192 : List (Nat × List (Int × Nat) × Nat) := []
noncomputable abbrev X192 : Nat → Ctx := ctxOf tb K192 L192 Q192
theorem E192 : ∀ x, funRun fs X192 6 192 C192 x = C192.fn x := fun x => by kernel_rfl
theorem B192 : ConB Try.prog 192 C192 := ConB.make FS MIX TY (cons := K192) (L := L192) (ptrs := Q192) trivial trivial trivial rfl rfl E192
theorem S192 : ConS Try.prog 192 C192 := B192.call rfl
/-! laws.eqWaitS: function 193 -/
noncomputable def f_laws_eqWaitS.l0 : Nat → (List (Int × Bool)) → (List (Int × Bool)) → Bool → Int → Option ((Bool) ⊕ (Bool))
  | 0, _, _, _, _ => none
  | n + 1, p430, p431, p432, p433 =>
    bif (decide (p433 < (p430.length : Int))) then
      bif ((decide ((0 : Int) ≤ p433)) && (decide (p433 < (p430.length : Int)))) then
      bif ((decide ((0 : Int) ≤ p433)) && (decide (p433 < (p431.length : Int)))) then
      (f_laws_eqWait ((p430.getD p433.toNat (0, false)).1) ((p430.getD p433.toNat (0, false)).2) ((p431.getD p433.toNat (0, false)).1) ((p431.getD p433.toNat (0, false)).2)).bind fun y434 =>
      bif (!y434) then
        some (.inl false)
      else
        f_laws_eqWaitS.l0 n p430 p431 p432 (IntKind.wrap .i64 (p433 + (1 : Int)))
      else none
      else none
    else
      some (.inr p432)
noncomputable def f_laws_eqWaitS (x0 : List (Int × Bool)) (x1 : List (Int × Bool)) : Option (Bool) :=
  bif (!(decide ((x0.length : Int) = (x1.length : Int)))) then
    some false
  else
    (f_laws_eqWaitS.l0 N x0 x1 false 0).bind fun r435 =>
    cs r435 (fun a436 =>
      some a436) (fun b437 =>
      some true)
noncomputable def C193 : Con := ⟨[(.B, false, [(.sl R3)]), (.B, false, [(.sl R3)])], [(false, [.bool])], [(.sl R3), (.sl R3)], [.bool], fun (p : (List (Int × Bool)) × (List (Int × Bool))) => f_laws_eqWaitS p.1 p.2⟩
noncomputable def f_laws_eqWaitS.l0.c : LoopCon := ⟨1000, 6, [0, 1, 4, 5], ⟨[(0, .bor none R3 []), (1, .bor none R3 []), (4, .bool false), (5, .int .i64 0)], [], 1000⟩, [(.sl R3), (.sl R3), .bool, (.int .i64)], [⟨.ret, [4], ⟨[(4, .bool false)], [], 1000⟩, [.bool]⟩, ⟨.exit 0, [4], ⟨[(4, .bool false)], [], 1000⟩, [.bool]⟩], fun (p : (List (Int × Bool)) × (List (Int × Bool)) × Bool × Int) => f_laws_eqWaitS.l0 N p.1 p.2.1 p.2.2.1 p.2.2.2⟩
noncomputable abbrev K193 : Cons := [(192, C192)]
noncomputable abbrev L193 : List (Nat × Loops) := [(193, [(4, f_laws_eqWaitS.l0.c)])]
abbrev Q193 : List (Nat × List (Int × Nat) × Nat) := []
noncomputable abbrev X193 : Nat → Ctx := ctxOf tb K193 L193 Q193
theorem f_laws_eqWaitS.l0.ok : ∀ n p, (fun (p : (List (Int × Bool)) × (List (Int × Bool)) × Bool × Int) => f_laws_eqWaitS.l0 n p.1 p.2.1 p.2.2.1 p.2.2.2) p = iterD (roundOf fs X193 6 193 4 false f_laws_eqWaitS.l0.c) n p :=
  iter_of (l := fun n => fun (p : (List (Int × Bool)) × (List (Int × Bool)) × Bool × Int) => f_laws_eqWaitS.l0 n p.1 p.2.1 p.2.2.1 p.2.2.2) (fun _ => rfl) (fun n p => by kernel_rfl)
theorem E193 : ∀ x, funRun fs X193 6 193 C193 x = C193.fn x := fun x => by kernel_rfl
theorem B193 : ConB Try.prog 193 C193 := ConB.make FS MIX TY (cons := K193) (L := L193) (ptrs := Q193) ⟨S192, trivial⟩ trivial ⟨⟨⟨N, fun p => f_laws_eqWaitS.l0.ok N p⟩, trivial⟩, trivial⟩ rfl rfl E193
theorem S193 : ConS Try.prog 193 C193 := B193.call rfl
/-! laws.eqHome: function 177 -/
noncomputable def f_laws_eqHome (x0 : List Int) (x1 : Int) (x2 : List Bool) (x3 : Bool) (x4 : Int) (x5 : Bool) (x6 : Int) (x7 : List (Int × Bool)) (x8 : List Int) (x9 : Int) (x10 : List Bool) (x11 : Bool) (x12 : Int) (x13 : Bool) (x14 : Int) (x15 : List (Int × Bool)) : Option (Bool) :=
  (f_laws_eqIntS x0 x8).bind fun y438 =>
  bif (!y438) then
    some false
  else
    bif (!(decide (x1 = x9))) then
      some false
    else
      (f_laws_eqBoolS x2 x10).bind fun y439 =>
      bif (!y439) then
        some false
      else
        bif (!(x3 == x11)) then
          some false
        else
          (f_laws_eqWait x4 x5 x12 x13).bind fun y440 =>
          bif (!y440) then
            some false
          else
            bif (!(decide (x6 = x14))) then
              some false
            else
              (f_laws_eqWaitS x7 x15).bind fun y441 =>
              bif (!y441) then
                some false
              else
                some true
noncomputable def C177 : Con := ⟨[(.B, true, [(.sl R0), (.int .i64), (.sl R2), .bool, (.int .i64), .bool, (.int .i64), (.sl R3)]), (.B, true, [(.sl R0), (.int .i64), (.sl R2), .bool, (.int .i64), .bool, (.int .i64), (.sl R3)])], [(false, [.bool])], [(.sl R0), (.int .i64), (.sl R2), .bool, (.int .i64), .bool, (.int .i64), (.sl R3), (.sl R0), (.int .i64), (.sl R2), .bool, (.int .i64), .bool, (.int .i64), (.sl R3)], [.bool], fun (p : List Int × Int × List Bool × Bool × Int × Bool × Int × (List (Int × Bool)) × List Int × Int × List Bool × Bool × Int × Bool × Int × (List (Int × Bool))) => f_laws_eqHome p.1 p.2.1 p.2.2.1 p.2.2.2.1 p.2.2.2.2.1 p.2.2.2.2.2.1 p.2.2.2.2.2.2.1 p.2.2.2.2.2.2.2.1 p.2.2.2.2.2.2.2.2.1 p.2.2.2.2.2.2.2.2.2.1 p.2.2.2.2.2.2.2.2.2.2.1 p.2.2.2.2.2.2.2.2.2.2.2.1 p.2.2.2.2.2.2.2.2.2.2.2.2.1 p.2.2.2.2.2.2.2.2.2.2.2.2.2.1 p.2.2.2.2.2.2.2.2.2.2.2.2.2.2.1 p.2.2.2.2.2.2.2.2.2.2.2.2.2.2.2⟩
noncomputable abbrev K177 : Cons := [(27, C27), (191, C191), (192, C192), (193, C193)]
noncomputable abbrev L177 : List (Nat × Loops) := []
abbrev Q177 : List (Nat × List (Int × Nat) × Nat) := []
noncomputable abbrev X177 : Nat → Ctx := ctxOf tb K177 L177 Q177
theorem E177 : ∀ x, funRun fs X177 6 177 C177 x = C177.fn x := fun x => by kernel_rfl
theorem B177 : ConB Try.prog 177 C177 := ConB.make FS MIX TY (cons := K177) (L := L177) (ptrs := Q177) ⟨S27, S191, S192, S193, trivial⟩ trivial trivial rfl rfl E177
theorem S177 : ConS Try.prog 177 C177 := B177.call rfl
/-! laws.eqHomeS: function 154 -/
noncomputable def f_laws_eqHomeS.l0 : Nat → (List (List Int × Int × List Bool × Bool × Int × Bool × Int × (List (Int × Bool)))) → (List (List Int × Int × List Bool × Bool × Int × Bool × Int × (List (Int × Bool)))) → Bool → Int → Option ((Bool) ⊕ (Bool))
  | 0, _, _, _, _ => none
  | n + 1, p442, p443, p444, p445 =>
    bif (decide (p445 < (p442.length : Int))) then
      bif ((decide ((0 : Int) ≤ p445)) && (decide (p445 < (p442.length : Int)))) then
      bif ((decide ((0 : Int) ≤ p445)) && (decide (p445 < (p443.length : Int)))) then
      (f_laws_eqHome ((p442.getD p445.toNat ([], 0, [], false, 0, false, 0, [])).1) ((p442.getD p445.toNat ([], 0, [], false, 0, false, 0, [])).2.1) ((p442.getD p445.toNat ([], 0, [], false, 0, false, 0, [])).2.2.1) ((p442.getD p445.toNat ([], 0, [], false, 0, false, 0, [])).2.2.2.1) ((p442.getD p445.toNat ([], 0, [], false, 0, false, 0, [])).2.2.2.2.1) ((p442.getD p445.toNat ([], 0, [], false, 0, false, 0, [])).2.2.2.2.2.1) ((p442.getD p445.toNat ([], 0, [], false, 0, false, 0, [])).2.2.2.2.2.2.1) ((p442.getD p445.toNat ([], 0, [], false, 0, false, 0, [])).2.2.2.2.2.2.2) ((p443.getD p445.toNat ([], 0, [], false, 0, false, 0, [])).1) ((p443.getD p445.toNat ([], 0, [], false, 0, false, 0, [])).2.1) ((p443.getD p445.toNat ([], 0, [], false, 0, false, 0, [])).2.2.1) ((p443.getD p445.toNat ([], 0, [], false, 0, false, 0, [])).2.2.2.1) ((p443.getD p445.toNat ([], 0, [], false, 0, false, 0, [])).2.2.2.2.1) ((p443.getD p445.toNat ([], 0, [], false, 0, false, 0, [])).2.2.2.2.2.1) ((p443.getD p445.toNat ([], 0, [], false, 0, false, 0, [])).2.2.2.2.2.2.1) ((p443.getD p445.toNat ([], 0, [], false, 0, false, 0, [])).2.2.2.2.2.2.2)).bind fun y446 =>
      bif (!y446) then
        some (.inl false)
      else
        f_laws_eqHomeS.l0 n p442 p443 p444 (IntKind.wrap .i64 (p445 + (1 : Int)))
      else none
      else none
    else
      some (.inr p444)
noncomputable def f_laws_eqHomeS (x0 : List (List Int × Int × List Bool × Bool × Int × Bool × Int × (List (Int × Bool)))) (x1 : List (List Int × Int × List Bool × Bool × Int × Bool × Int × (List (Int × Bool)))) : Option (Bool) :=
  bif (!(decide ((x0.length : Int) = (x1.length : Int)))) then
    some false
  else
    (f_laws_eqHomeS.l0 N x0 x1 false 0).bind fun r447 =>
    cs r447 (fun a448 =>
      some a448) (fun b449 =>
      some true)
noncomputable def C154 : Con := ⟨[(.B, false, [(.sl R4)]), (.B, false, [(.sl R4)])], [(false, [.bool])], [(.sl R4), (.sl R4)], [.bool], fun (p : (List (List Int × Int × List Bool × Bool × Int × Bool × Int × (List (Int × Bool)))) × (List (List Int × Int × List Bool × Bool × Int × Bool × Int × (List (Int × Bool))))) => f_laws_eqHomeS p.1 p.2⟩
noncomputable def f_laws_eqHomeS.l0.c : LoopCon := ⟨1000, 6, [0, 1, 4, 5], ⟨[(0, .bor none R4 []), (1, .bor none R4 []), (4, .bool false), (5, .int .i64 0)], [], 1000⟩, [(.sl R4), (.sl R4), .bool, (.int .i64)], [⟨.ret, [4], ⟨[(4, .bool false)], [], 1000⟩, [.bool]⟩, ⟨.exit 0, [4], ⟨[(4, .bool false)], [], 1000⟩, [.bool]⟩], fun (p : (List (List Int × Int × List Bool × Bool × Int × Bool × Int × (List (Int × Bool)))) × (List (List Int × Int × List Bool × Bool × Int × Bool × Int × (List (Int × Bool)))) × Bool × Int) => f_laws_eqHomeS.l0 N p.1 p.2.1 p.2.2.1 p.2.2.2⟩
noncomputable abbrev K154 : Cons := [(177, C177)]
noncomputable abbrev L154 : List (Nat × Loops) := [(154, [(4, f_laws_eqHomeS.l0.c)])]
abbrev Q154 : List (Nat × List (Int × Nat) × Nat) := []
noncomputable abbrev X154 : Nat → Ctx := ctxOf tb K154 L154 Q154
theorem f_laws_eqHomeS.l0.ok : ∀ n p, (fun (p : (List (List Int × Int × List Bool × Bool × Int × Bool × Int × (List (Int × Bool)))) × (List (List Int × Int × List Bool × Bool × Int × Bool × Int × (List (Int × Bool)))) × Bool × Int) => f_laws_eqHomeS.l0 n p.1 p.2.1 p.2.2.1 p.2.2.2) p = iterD (roundOf fs X154 6 154 4 false f_laws_eqHomeS.l0.c) n p :=
  iter_of (l := fun n => fun (p : (List (List Int × Int × List Bool × Bool × Int × Bool × Int × (List (Int × Bool)))) × (List (List Int × Int × List Bool × Bool × Int × Bool × Int × (List (Int × Bool)))) × Bool × Int) => f_laws_eqHomeS.l0 n p.1 p.2.1 p.2.2.1 p.2.2.2) (fun _ => rfl) (fun n p => by kernel_rfl)
theorem E154 : ∀ x, funRun fs X154 6 154 C154 x = C154.fn x := fun x => by kernel_rfl
theorem B154 : ConB Try.prog 154 C154 := ConB.make FS MIX TY (cons := K154) (L := L154) (ptrs := Q154) ⟨S177, trivial⟩ trivial ⟨⟨⟨N, fun p => f_laws_eqHomeS.l0.ok N p⟩, trivial⟩, trivial⟩ rfl rfl E154
theorem S154 : ConS Try.prog 154 C154 := B154.call rfl
/-! laws.eqMsg: function 19 -/
noncomputable def f_laws_eqMsg (x0 : Int) (x1 : Int) (x2 : Bool) (x3 : List Int) (x4 : Int) (x5 : Int) (x6 : Bool) (x7 : List Int) : Option (Bool) :=
  bif (!(decide (x0 = x4))) then
    some false
  else
    bif (!(decide (x1 = x5))) then
      some false
    else
      bif (!(x2 == x6)) then
        some false
      else
        (f_laws_eqIntS x3 x7).bind fun y450 =>
        bif (!y450) then
          some false
        else
          some true
noncomputable def C19 : Con := ⟨[(.B, true, [(.int .i64), (.int .i64), .bool, (.sl R0)]), (.B, true, [(.int .i64), (.int .i64), .bool, (.sl R0)])], [(false, [.bool])], [(.int .i64), (.int .i64), .bool, (.sl R0), (.int .i64), (.int .i64), .bool, (.sl R0)], [.bool], fun (p : Int × Int × Bool × List Int × Int × Int × Bool × List Int) => f_laws_eqMsg p.1 p.2.1 p.2.2.1 p.2.2.2.1 p.2.2.2.2.1 p.2.2.2.2.2.1 p.2.2.2.2.2.2.1 p.2.2.2.2.2.2.2⟩
noncomputable abbrev K19 : Cons := [(27, C27)]
noncomputable abbrev L19 : List (Nat × Loops) := []
abbrev Q19 : List (Nat × List (Int × Nat) × Nat) := []
noncomputable abbrev X19 : Nat → Ctx := ctxOf tb K19 L19 Q19
theorem E19 : ∀ x, funRun fs X19 6 19 C19 x = C19.fn x := fun x => by kernel_rfl
theorem B19 : ConB Try.prog 19 C19 := ConB.make FS MIX TY (cons := K19) (L := L19) (ptrs := Q19) ⟨S27, trivial⟩ trivial trivial rfl rfl E19
theorem S19 : ConS Try.prog 19 C19 := B19.call rfl
/-! laws.eqMsgS: function 194 -/
noncomputable def f_laws_eqMsgS.l0 : Nat → (List (Int × Int × Bool × List Int)) → (List (Int × Int × Bool × List Int)) → Bool → Int → Option ((Bool) ⊕ (Bool))
  | 0, _, _, _, _ => none
  | n + 1, p451, p452, p453, p454 =>
    bif (decide (p454 < (p451.length : Int))) then
      bif ((decide ((0 : Int) ≤ p454)) && (decide (p454 < (p451.length : Int)))) then
      bif ((decide ((0 : Int) ≤ p454)) && (decide (p454 < (p452.length : Int)))) then
      (f_laws_eqMsg ((p451.getD p454.toNat (0, 0, false, [])).1) ((p451.getD p454.toNat (0, 0, false, [])).2.1) ((p451.getD p454.toNat (0, 0, false, [])).2.2.1) ((p451.getD p454.toNat (0, 0, false, [])).2.2.2) ((p452.getD p454.toNat (0, 0, false, [])).1) ((p452.getD p454.toNat (0, 0, false, [])).2.1) ((p452.getD p454.toNat (0, 0, false, [])).2.2.1) ((p452.getD p454.toNat (0, 0, false, [])).2.2.2)).bind fun y455 =>
      bif (!y455) then
        some (.inl false)
      else
        f_laws_eqMsgS.l0 n p451 p452 p453 (IntKind.wrap .i64 (p454 + (1 : Int)))
      else none
      else none
    else
      some (.inr p453)
noncomputable def f_laws_eqMsgS (x0 : List (Int × Int × Bool × List Int)) (x1 : List (Int × Int × Bool × List Int)) : Option (Bool) :=
  bif (!(decide ((x0.length : Int) = (x1.length : Int)))) then
    some false
  else
    (f_laws_eqMsgS.l0 N x0 x1 false 0).bind fun r456 =>
    cs r456 (fun a457 =>
      some a457) (fun b458 =>
      some true)
noncomputable def C194 : Con := ⟨[(.B, false, [(.sl R5)]), (.B, false, [(.sl R5)])], [(false, [.bool])], [(.sl R5), (.sl R5)], [.bool], fun (p : (List (Int × Int × Bool × List Int)) × (List (Int × Int × Bool × List Int))) => f_laws_eqMsgS p.1 p.2⟩
noncomputable def f_laws_eqMsgS.l0.c : LoopCon := ⟨1000, 6, [0, 1, 4, 5], ⟨[(0, .bor none R5 []), (1, .bor none R5 []), (4, .bool false), (5, .int .i64 0)], [], 1000⟩, [(.sl R5), (.sl R5), .bool, (.int .i64)], [⟨.ret, [4], ⟨[(4, .bool false)], [], 1000⟩, [.bool]⟩, ⟨.exit 0, [4], ⟨[(4, .bool false)], [], 1000⟩, [.bool]⟩], fun (p : (List (Int × Int × Bool × List Int)) × (List (Int × Int × Bool × List Int)) × Bool × Int) => f_laws_eqMsgS.l0 N p.1 p.2.1 p.2.2.1 p.2.2.2⟩
noncomputable abbrev K194 : Cons := [(19, C19)]
noncomputable abbrev L194 : List (Nat × Loops) := [(194, [(4, f_laws_eqMsgS.l0.c)])]
abbrev Q194 : List (Nat × List (Int × Nat) × Nat) := []
noncomputable abbrev X194 : Nat → Ctx := ctxOf tb K194 L194 Q194
theorem f_laws_eqMsgS.l0.ok : ∀ n p, (fun (p : (List (Int × Int × Bool × List Int)) × (List (Int × Int × Bool × List Int)) × Bool × Int) => f_laws_eqMsgS.l0 n p.1 p.2.1 p.2.2.1 p.2.2.2) p = iterD (roundOf fs X194 6 194 4 false f_laws_eqMsgS.l0.c) n p :=
  iter_of (l := fun n => fun (p : (List (Int × Int × Bool × List Int)) × (List (Int × Int × Bool × List Int)) × Bool × Int) => f_laws_eqMsgS.l0 n p.1 p.2.1 p.2.2.1 p.2.2.2) (fun _ => rfl) (fun n p => by kernel_rfl)
theorem E194 : ∀ x, funRun fs X194 6 194 C194 x = C194.fn x := fun x => by kernel_rfl
theorem B194 : ConB Try.prog 194 C194 := ConB.make FS MIX TY (cons := K194) (L := L194) (ptrs := Q194) ⟨S19, trivial⟩ trivial ⟨⟨⟨N, fun p => f_laws_eqMsgS.l0.ok N p⟩, trivial⟩, trivial⟩ rfl rfl E194
theorem S194 : ConS Try.prog 194 C194 := B194.call rfl
/-! laws.eqSender: function 178 -/
noncomputable def f_laws_eqSender (x0 : Int) (x1 : List (Int × Int × Bool × List Int)) (x2 : Int) (x3 : List (Int × Int × Bool × List Int)) : Option (Bool) :=
  bif (!(decide (x0 = x2))) then
    some false
  else
    (f_laws_eqMsgS x1 x3).bind fun y459 =>
    bif (!y459) then
      some false
    else
      some true
noncomputable def C178 : Con := ⟨[(.B, true, [(.int .i64), (.sl R5)]), (.B, true, [(.int .i64), (.sl R5)])], [(false, [.bool])], [(.int .i64), (.sl R5), (.int .i64), (.sl R5)], [.bool], fun (p : Int × (List (Int × Int × Bool × List Int)) × Int × (List (Int × Int × Bool × List Int))) => f_laws_eqSender p.1 p.2.1 p.2.2.1 p.2.2.2⟩
noncomputable abbrev K178 : Cons := [(194, C194)]
noncomputable abbrev L178 : List (Nat × Loops) := []
abbrev Q178 : List (Nat × List (Int × Nat) × Nat) := []
noncomputable abbrev X178 : Nat → Ctx := ctxOf tb K178 L178 Q178
theorem E178 : ∀ x, funRun fs X178 6 178 C178 x = C178.fn x := fun x => by kernel_rfl
theorem B178 : ConB Try.prog 178 C178 := ConB.make FS MIX TY (cons := K178) (L := L178) (ptrs := Q178) ⟨S194, trivial⟩ trivial trivial rfl rfl E178
theorem S178 : ConS Try.prog 178 C178 := B178.call rfl
/-! laws.eqSenderS: function 155 -/
noncomputable def f_laws_eqSenderS.l0 : Nat → (List (Int × (List (Int × Int × Bool × List Int)))) → (List (Int × (List (Int × Int × Bool × List Int)))) → Bool → Int → Option ((Bool) ⊕ (Bool))
  | 0, _, _, _, _ => none
  | n + 1, p460, p461, p462, p463 =>
    bif (decide (p463 < (p460.length : Int))) then
      bif ((decide ((0 : Int) ≤ p463)) && (decide (p463 < (p460.length : Int)))) then
      bif ((decide ((0 : Int) ≤ p463)) && (decide (p463 < (p461.length : Int)))) then
      (f_laws_eqSender ((p460.getD p463.toNat (0, [])).1) ((p460.getD p463.toNat (0, [])).2) ((p461.getD p463.toNat (0, [])).1) ((p461.getD p463.toNat (0, [])).2)).bind fun y464 =>
      bif (!y464) then
        some (.inl false)
      else
        f_laws_eqSenderS.l0 n p460 p461 p462 (IntKind.wrap .i64 (p463 + (1 : Int)))
      else none
      else none
    else
      some (.inr p462)
noncomputable def f_laws_eqSenderS (x0 : List (Int × (List (Int × Int × Bool × List Int)))) (x1 : List (Int × (List (Int × Int × Bool × List Int)))) : Option (Bool) :=
  bif (!(decide ((x0.length : Int) = (x1.length : Int)))) then
    some false
  else
    (f_laws_eqSenderS.l0 N x0 x1 false 0).bind fun r465 =>
    cs r465 (fun a466 =>
      some a466) (fun b467 =>
      some true)
noncomputable def C155 : Con := ⟨[(.B, false, [(.sl R6)]), (.B, false, [(.sl R6)])], [(false, [.bool])], [(.sl R6), (.sl R6)], [.bool], fun (p : (List (Int × (List (Int × Int × Bool × List Int)))) × (List (Int × (List (Int × Int × Bool × List Int))))) => f_laws_eqSenderS p.1 p.2⟩
noncomputable def f_laws_eqSenderS.l0.c : LoopCon := ⟨1000, 6, [0, 1, 4, 5], ⟨[(0, .bor none R6 []), (1, .bor none R6 []), (4, .bool false), (5, .int .i64 0)], [], 1000⟩, [(.sl R6), (.sl R6), .bool, (.int .i64)], [⟨.ret, [4], ⟨[(4, .bool false)], [], 1000⟩, [.bool]⟩, ⟨.exit 0, [4], ⟨[(4, .bool false)], [], 1000⟩, [.bool]⟩], fun (p : (List (Int × (List (Int × Int × Bool × List Int)))) × (List (Int × (List (Int × Int × Bool × List Int)))) × Bool × Int) => f_laws_eqSenderS.l0 N p.1 p.2.1 p.2.2.1 p.2.2.2⟩
noncomputable abbrev K155 : Cons := [(178, C178)]
noncomputable abbrev L155 : List (Nat × Loops) := [(155, [(4, f_laws_eqSenderS.l0.c)])]
abbrev Q155 : List (Nat × List (Int × Nat) × Nat) := []
noncomputable abbrev X155 : Nat → Ctx := ctxOf tb K155 L155 Q155
theorem f_laws_eqSenderS.l0.ok : ∀ n p, (fun (p : (List (Int × (List (Int × Int × Bool × List Int)))) × (List (Int × (List (Int × Int × Bool × List Int)))) × Bool × Int) => f_laws_eqSenderS.l0 n p.1 p.2.1 p.2.2.1 p.2.2.2) p = iterD (roundOf fs X155 6 155 4 false f_laws_eqSenderS.l0.c) n p :=
  iter_of (l := fun n => fun (p : (List (Int × (List (Int × Int × Bool × List Int)))) × (List (Int × (List (Int × Int × Bool × List Int)))) × Bool × Int) => f_laws_eqSenderS.l0 n p.1 p.2.1 p.2.2.1 p.2.2.2) (fun _ => rfl) (fun n p => by kernel_rfl)
theorem E155 : ∀ x, funRun fs X155 6 155 C155 x = C155.fn x := fun x => by kernel_rfl
theorem B155 : ConB Try.prog 155 C155 := ConB.make FS MIX TY (cons := K155) (L := L155) (ptrs := Q155) ⟨S178, trivial⟩ trivial ⟨⟨⟨N, fun p => f_laws_eqSenderS.l0.ok N p⟩, trivial⟩, trivial⟩ rfl rfl E155
theorem S155 : ConS Try.prog 155 C155 := B155.call rfl
/-! laws.eqReceiver: function 179 -/
noncomputable def f_laws_eqReceiver (x0 : Int) (x1 : Int) : Option (Bool) :=
  bif (!(decide (x0 = x1))) then
    some false
  else
    some true
noncomputable def C179 : Con := ⟨[(.B, true, [(.int .i64)]), (.B, true, [(.int .i64)])], [(false, [.bool])], [(.int .i64), (.int .i64)], [.bool], fun (p : Int × Int) => f_laws_eqReceiver p.1 p.2⟩
noncomputable abbrev K179 : Cons := []
noncomputable abbrev L179 : List (Nat × Loops) := []
abbrev Q179 : List (Nat × List (Int × Nat) × Nat) := []
noncomputable abbrev X179 : Nat → Ctx := ctxOf tb K179 L179 Q179
theorem E179 : ∀ x, funRun fs X179 6 179 C179 x = C179.fn x := fun x => by kernel_rfl
theorem B179 : ConB Try.prog 179 C179 := ConB.make FS MIX TY (cons := K179) (L := L179) (ptrs := Q179) trivial trivial trivial rfl rfl E179
theorem S179 : ConS Try.prog 179 C179 := B179.call rfl
/-! laws.eqReceiverS: function 156 -/
noncomputable def f_laws_eqReceiverS.l0 : Nat → (List Int) → (List Int) → Bool → Int → Option ((Bool) ⊕ (Bool))
  | 0, _, _, _, _ => none
  | n + 1, p468, p469, p470, p471 =>
    bif (decide (p471 < (p468.length : Int))) then
      bif ((decide ((0 : Int) ≤ p471)) && (decide (p471 < (p468.length : Int)))) then
      bif ((decide ((0 : Int) ≤ p471)) && (decide (p471 < (p469.length : Int)))) then
      (f_laws_eqReceiver (p468.getD p471.toNat 0) (p469.getD p471.toNat 0)).bind fun y472 =>
      bif (!y472) then
        some (.inl false)
      else
        f_laws_eqReceiverS.l0 n p468 p469 p470 (IntKind.wrap .i64 (p471 + (1 : Int)))
      else none
      else none
    else
      some (.inr p470)
noncomputable def f_laws_eqReceiverS (x0 : List Int) (x1 : List Int) : Option (Bool) :=
  bif (!(decide ((x0.length : Int) = (x1.length : Int)))) then
    some false
  else
    (f_laws_eqReceiverS.l0 N x0 x1 false 0).bind fun r473 =>
    cs r473 (fun a474 =>
      some a474) (fun b475 =>
      some true)
noncomputable def C156 : Con := ⟨[(.B, false, [(.sl R0)]), (.B, false, [(.sl R0)])], [(false, [.bool])], [(.sl R0), (.sl R0)], [.bool], fun (p : List Int × List Int) => f_laws_eqReceiverS p.1 p.2⟩
noncomputable def f_laws_eqReceiverS.l0.c : LoopCon := ⟨1000, 6, [0, 1, 4, 5], ⟨[(0, .bor none R0 []), (1, .bor none R0 []), (4, .bool false), (5, .int .i64 0)], [], 1000⟩, [(.sl R0), (.sl R0), .bool, (.int .i64)], [⟨.ret, [4], ⟨[(4, .bool false)], [], 1000⟩, [.bool]⟩, ⟨.exit 0, [4], ⟨[(4, .bool false)], [], 1000⟩, [.bool]⟩], fun (p : List Int × List Int × Bool × Int) => f_laws_eqReceiverS.l0 N p.1 p.2.1 p.2.2.1 p.2.2.2⟩
noncomputable abbrev K156 : Cons := [(179, C179)]
noncomputable abbrev L156 : List (Nat × Loops) := [(156, [(4, f_laws_eqReceiverS.l0.c)])]
abbrev Q156 : List (Nat × List (Int × Nat) × Nat) := []
noncomputable abbrev X156 : Nat → Ctx := ctxOf tb K156 L156 Q156
theorem f_laws_eqReceiverS.l0.ok : ∀ n p, (fun (p : List Int × List Int × Bool × Int) => f_laws_eqReceiverS.l0 n p.1 p.2.1 p.2.2.1 p.2.2.2) p = iterD (roundOf fs X156 6 156 4 false f_laws_eqReceiverS.l0.c) n p :=
  iter_of (l := fun n => fun (p : List Int × List Int × Bool × Int) => f_laws_eqReceiverS.l0 n p.1 p.2.1 p.2.2.1 p.2.2.2) (fun _ => rfl) (fun n p => by kernel_rfl)
theorem E156 : ∀ x, funRun fs X156 6 156 C156 x = C156.fn x := fun x => by kernel_rfl
theorem B156 : ConB Try.prog 156 C156 := ConB.make FS MIX TY (cons := K156) (L := L156) (ptrs := Q156) ⟨S179, trivial⟩ trivial ⟨⟨⟨N, fun p => f_laws_eqReceiverS.l0.ok N p⟩, trivial⟩, trivial⟩ rfl rfl E156
theorem S156 : ConS Try.prog 156 C156 := B156.call rfl
/-! laws.eqNode: function 89 -/
noncomputable def f_laws_eqNode (x0 : Int) (x1 : List (Int × List Int × Bool)) (x2 : List (List Int × Int × List Bool × Bool × Int × Bool × Int × (List (Int × Bool)))) (x3 : List (Int × (List (Int × Int × Bool × List Int)))) (x4 : List Int) (x5 : Int) (x6 : List (Int × List Int × Bool)) (x7 : List (List Int × Int × List Bool × Bool × Int × Bool × Int × (List (Int × Bool)))) (x8 : List (Int × (List (Int × Int × Bool × List Int)))) (x9 : List Int) : Option (Bool) :=
  bif (!(decide (x0 = x5))) then
    some false
  else
    (f_laws_eqFrameS x1 x6).bind fun y476 =>
    bif (!y476) then
      some false
    else
      (f_laws_eqHomeS x2 x7).bind fun y477 =>
      bif (!y477) then
        some false
      else
        (f_laws_eqSenderS x3 x8).bind fun y478 =>
        bif (!y478) then
          some false
        else
          (f_laws_eqReceiverS x4 x9).bind fun y479 =>
          bif (!y479) then
            some false
          else
            some true
noncomputable def C89 : Con := ⟨[(.B, true, [(.int .i64), (.sl R1), (.sl R4), (.sl R6), (.sl R0)]), (.B, true, [(.int .i64), (.sl R1), (.sl R4), (.sl R6), (.sl R0)])], [(false, [.bool])], [(.int .i64), (.sl R1), (.sl R4), (.sl R6), (.sl R0), (.int .i64), (.sl R1), (.sl R4), (.sl R6), (.sl R0)], [.bool], fun (p : Int × (List (Int × List Int × Bool)) × (List (List Int × Int × List Bool × Bool × Int × Bool × Int × (List (Int × Bool)))) × (List (Int × (List (Int × Int × Bool × List Int)))) × List Int × Int × (List (Int × List Int × Bool)) × (List (List Int × Int × List Bool × Bool × Int × Bool × Int × (List (Int × Bool)))) × (List (Int × (List (Int × Int × Bool × List Int)))) × List Int) => f_laws_eqNode p.1 p.2.1 p.2.2.1 p.2.2.2.1 p.2.2.2.2.1 p.2.2.2.2.2.1 p.2.2.2.2.2.2.1 p.2.2.2.2.2.2.2.1 p.2.2.2.2.2.2.2.2.1 p.2.2.2.2.2.2.2.2.2⟩
noncomputable abbrev K89 : Cons := [(153, C153), (154, C154), (155, C155), (156, C156)]
noncomputable abbrev L89 : List (Nat × Loops) := []
abbrev Q89 : List (Nat × List (Int × Nat) × Nat) := []
noncomputable abbrev X89 : Nat → Ctx := ctxOf tb K89 L89 Q89
theorem E89 : ∀ x, funRun fs X89 6 89 C89 x = C89.fn x := fun x => by kernel_rfl
theorem B89 : ConB Try.prog 89 C89 := ConB.make FS MIX TY (cons := K89) (L := L89) (ptrs := Q89) ⟨S153, S154, S155, S156, trivial⟩ trivial trivial rfl rfl E89
theorem S89 : ConS Try.prog 89 C89 := B89.call rfl
/-! laws.FnExactNodeOk: function 13 -/
noncomputable def f_laws_FnExactNodeOk (x0 : Int) (x1 : List (Int × List Int × Bool)) (x2 : List (List Int × Int × List Bool × Bool × Int × Bool × Int × (List (Int × Bool)))) (x3 : List (Int × (List (Int × Int × Bool × List Int)))) (x4 : List Int) (x5 : Int) : Option (Bool) :=
  (f_laws_szNode x0 x1 x2 x3 x4 1048576).bind fun y480 =>
  bif (decide (y480 < (0 : Int))) then
    some true
  else
    (f_laws_toNode x0 x1 x2 x3 x4).bind fun y481 =>
    (f_spec_NodeOk y481.1 y481.2.1 y481.2.2.1 y481.2.2.2.1 y481.2.2.2.2 x5).bind fun y482 =>
    (f_laws_toNode x0 x1 x2 x3 x4).bind fun y483 =>
    (f_impl_NodeOk y483.1 y483.2.1 y483.2.2.1 y483.2.2.2.1 y483.2.2.2.2 x5).bind fun y484 =>
    bif (!(y484 == y482)) then
      some false
    else
      (f_laws_toNode x0 x1 x2 x3 x4).bind fun y485 =>
      (f_laws_eqNode y483.1 y483.2.1 y483.2.2.1 y483.2.2.2.1 y483.2.2.2.2 y485.1 y485.2.1 y485.2.2.1 y485.2.2.2.1 y485.2.2.2.2).bind fun y486 =>
      bif (!y486) then
        some false
      else
        some true
noncomputable def C13 : Con := ⟨[(.B, true, [(.int .i64), (.sl R1), (.sl R4), (.sl R6), (.sl R0)]), (.B, false, [(.int .i64)])], [(false, [.bool])], [(.int .i64), (.sl R1), (.sl R4), (.sl R6), (.sl R0), (.int .i64)], [.bool], fun (p : Int × (List (Int × List Int × Bool)) × (List (List Int × Int × List Bool × Bool × Int × Bool × Int × (List (Int × Bool)))) × (List (Int × (List (Int × Int × Bool × List Int)))) × List Int × Int) => f_laws_FnExactNodeOk p.1 p.2.1 p.2.2.1 p.2.2.2.1 p.2.2.2.2.1 p.2.2.2.2.2⟩
noncomputable abbrev K13 : Cons := [(85, C85), (86, C86), (87, C87), (88, C88), (89, C89)]
noncomputable abbrev L13 : List (Nat × Loops) := []
abbrev Q13 : List (Nat × List (Int × Nat) × Nat) := []
noncomputable abbrev X13 : Nat → Ctx := ctxOf tb K13 L13 Q13
theorem E13 : ∀ x, funRun fs X13 6 13 C13 x = C13.fn x := fun x => by kernel_rfl
theorem B13 : ConB Try.prog 13 C13 := ConB.make FS MIX TY (cons := K13) (L := L13) (ptrs := Q13) ⟨S85, S86, S87, S88, S89, trivial⟩ trivial trivial rfl rfl E13
theorem S13 : ConS Try.prog 13 C13 := B13.call rfl
/-- What is left: the plain law. -/
def Pure : Prop := ∀ x : Tup [(.int .i64), (.sl R1), (.sl R4), (.sl R6), (.sl R0), (.int .i64)], WfT [(.int .i64), (.sl R1), (.sl R4), (.sl R6), (.sl R0), (.int .i64)] x → C13.fn x = some (true : Bool)
end
end Go.Abs
