import Derived.Test.YtgifligfbjnmfaaGreatProg
import Derived.Test.YtgifligfbjnmfaaGreatAbsD
import Derived.KernelRfl
namespace Go.Abs
open Go.Proofs
set_option linter.unusedVariables false
set_option maxRecDepth 100000
noncomputable section
abbrev N : Nat := 1152921504606846976
abbrev R0 : RT := .one (.int .i64)
abbrev R1 : RT := .cons (.int .i64) (.cons (.sl R0) (.one .bool))
abbrev R2 : RT := .one .bool
abbrev R3 : RT := .cons (.int .i64) (.one .bool)
abbrev R4 : RT := .cons (.sl R0) (.cons (.int .i64) (.cons (.sl R2) (.cons .bool (.cons (.int .i64) (.cons .bool (.cons (.int .i64) (.one (.sl R3))))))))
abbrev R5 : RT := .cons (.int .i64) (.cons (.int .i64) (.cons .bool (.one (.sl R0))))
abbrev R6 : RT := .cons (.int .i64) (.one (.sl R5))
abbrev R7 : RT := .cons (.int .i64) (.cons (.sl R1) (.cons (.sl R4) (.cons (.sl R6) (.one (.sl R0)))))
abbrev R8 : RT := .cons (.int .i64) (.cons (.int .i64) (.cons .bool (.cons (.int .i64) (.cons (.int .i64) (.cons (.int .i64) (.cons .bool (.one (.sl R0))))))))
noncomputable def tb : Tb := [(0, ⟨false, [], [], 0, 0⟩),
  (3, ⟨false, [(.int .i64)], [], 0, 8⟩),
  (4, ⟨false, [.bool], [], 0, 1⟩),
  (22, ⟨false, [(.sl R7)], [], 63, 24⟩),
  (23, ⟨false, [(.sl R8)], [], 67, 24⟩),
  (25, ⟨true, [(.int .i64), (.sl R7), (.sl R8)], [(0, 3), (1, 22), (2, 23)], 0, 56⟩),
  (28, ⟨false, [(.sl R7)], [], 44, 24⟩),
  (29, ⟨false, [(.sl R8)], [], 50, 24⟩),
  (31, ⟨true, [(.int .i64), (.sl R7), (.sl R8)], [(0, 3), (1, 28), (2, 29)], 0, 56⟩),
  (39, ⟨false, [(.sl R1)], [], 70, 24⟩),
  (40, ⟨false, [(.sl R4)], [], 77, 24⟩),
  (41, ⟨false, [(.sl R6)], [], 81, 24⟩),
  (42, ⟨false, [(.sl R0)], [], 83, 24⟩),
  (44, ⟨true, [(.int .i64), (.sl R1), (.sl R4), (.sl R6), (.sl R0)], [(0, 3), (1, 39), (2, 40), (3, 41), (4, 42)], 0, 104⟩),
  (46, ⟨false, [(.sl R0)], [], 3, 24⟩),
  (48, ⟨true, [(.int .i64), (.int .i64), .bool, (.sl R0)], [(0, 3), (1, 3), (2, 4), (3, 46)], 0, 48⟩),
  (50, ⟨true, [(.int .i64), (.int .i64), .bool, (.int .i64), (.int .i64), (.int .i64), .bool, (.sl R0)], [(0, 3), (1, 3), (2, 4), (3, 3), (4, 48)], 0, 80⟩),
  (54, ⟨false, [], [], 0, 8⟩),
  (58, ⟨false, [(.sl R1)], [], 122, 24⟩),
  (59, ⟨false, [(.sl R4)], [], 127, 24⟩),
  (60, ⟨false, [(.sl R6)], [], 131, 24⟩),
  (61, ⟨false, [(.sl R0)], [], 137, 24⟩),
  (63, ⟨true, [(.int .i64), (.sl R1), (.sl R4), (.sl R6), (.sl R0)], [(0, 3), (1, 58), (2, 59), (3, 60), (4, 61)], 0, 104⟩),
  (65, ⟨true, [(.int .i64), (.int .i64), .bool, (.sl R0)], [(0, 3), (1, 3), (2, 4), (3, 46)], 0, 48⟩),
  (67, ⟨true, [(.int .i64), (.int .i64), .bool, (.int .i64), (.int .i64), (.int .i64), .bool, (.sl R0)], [(0, 3), (1, 3), (2, 4), (3, 3), (4, 65)], 0, 80⟩),
  (68, ⟨false, [], [], 0, 8⟩),
  (70, ⟨true, [(.int .i64), (.sl R0), .bool], [(0, 3), (1, 46), (2, 4)], 0, 40⟩),
  (72, ⟨false, [(.sl R2)], [], 4, 24⟩),
  (74, ⟨true, [(.int .i64), .bool], [(0, 3), (1, 4)], 0, 16⟩),
  (75, ⟨false, [(.sl R3)], [], 74, 24⟩),
  (77, ⟨true, [(.sl R0), (.int .i64), (.sl R2), .bool, (.int .i64), .bool, (.int .i64), (.sl R3)], [(0, 46), (1, 3), (2, 72), (3, 4), (4, 74), (6, 3), (7, 75)], 0, 112⟩),
  (78, ⟨false, [], [], 0, 8⟩),
  (79, ⟨false, [(.sl R5)], [], 48, 24⟩),
  (81, ⟨true, [(.int .i64), (.sl R5)], [(0, 3), (1, 79)], 0, 32⟩),
  (83, ⟨true, [(.int .i64)], [(0, 3)], 0, 8⟩),
  (84, ⟨false, [], [], 0, 8⟩),
  (90, ⟨false, [], [], 0, 8⟩),
  (93, ⟨false, [], [], 0, 8⟩),
  (94, ⟨false, [], [], 0, 8⟩),
  (112, ⟨false, [], [], 0, 8⟩),
  (122, ⟨true, [(.int .i64), (.sl R0), .bool], [(0, 3), (1, 46), (2, 4)], 0, 40⟩),
  (124, ⟨true, [(.int .i64), .bool], [(0, 3), (1, 4)], 0, 16⟩),
  (125, ⟨false, [(.sl R3)], [], 124, 24⟩),
  (127, ⟨true, [(.sl R0), (.int .i64), (.sl R2), .bool, (.int .i64), .bool, (.int .i64), (.sl R3)], [(0, 46), (1, 3), (2, 72), (3, 4), (4, 124), (6, 3), (7, 125)], 0, 112⟩),
  (129, ⟨false, [(.sl R5)], [], 65, 24⟩),
  (131, ⟨true, [(.int .i64), (.sl R5)], [(0, 3), (1, 129)], 0, 32⟩),
  (137, ⟨true, [(.int .i64)], [(0, 3)], 0, 8⟩)]
noncomputable def fsL : List (Nat × Func) := [(77, Tryz.f77), (74, Tryz.f74), (48, Tryz.f48), (93, Tryz.f93), (94, Tryz.f94), (75, Tryz.f75), (49, Tryz.f49), (52, Tryz.f52), (95, Tryz.f95), (76, Tryz.f76), (50, Tryz.f50), (51, Tryz.f51), (23, Tryz.f23), (9, Tryz.f9), (24, Tryz.f24), (10, Tryz.f10), (4, Tryz.f4), (82, Tryz.f82), (78, Tryz.f78), (54, Tryz.f54), (96, Tryz.f96), (97, Tryz.f97), (98, Tryz.f98), (79, Tryz.f79), (55, Tryz.f55), (58, Tryz.f58), (99, Tryz.f99), (80, Tryz.f80), (56, Tryz.f56), (81, Tryz.f81), (57, Tryz.f57), (29, Tryz.f29), (14, Tryz.f14), (30, Tryz.f30), (15, Tryz.f15), (6, Tryz.f6), (11, Tryz.f11), (53, Tryz.f53), (25, Tryz.f25), (26, Tryz.f26), (28, Tryz.f28), (27, Tryz.f27), (12, Tryz.f12), (13, Tryz.f13), (5, Tryz.f5), (16, Tryz.f16), (31, Tryz.f31), (85, Tryz.f85), (84, Tryz.f84), (100, Tryz.f100), (83, Tryz.f83), (60, Tryz.f60), (34, Tryz.f34), (33, Tryz.f33), (59, Tryz.f59), (32, Tryz.f32), (63, Tryz.f63), (86, Tryz.f86), (62, Tryz.f62), (37, Tryz.f37), (36, Tryz.f36), (61, Tryz.f61), (35, Tryz.f35), (43, Tryz.f43), (68, Tryz.f68), (45, Tryz.f45), (66, Tryz.f66), (87, Tryz.f87), (65, Tryz.f65), (40, Tryz.f40), (39, Tryz.f39), (64, Tryz.f64), (38, Tryz.f38), (42, Tryz.f42), (67, Tryz.f67), (41, Tryz.f41), (17, Tryz.f17), (20, Tryz.f20), (19, Tryz.f19), (44, Tryz.f44), (18, Tryz.f18), (7, Tryz.f7), (92, Tryz.f92), (88, Tryz.f88), (69, Tryz.f69), (101, Tryz.f101), (102, Tryz.f102), (103, Tryz.f103), (89, Tryz.f89), (70, Tryz.f70), (73, Tryz.f73), (104, Tryz.f104), (90, Tryz.f90), (71, Tryz.f71), (91, Tryz.f91), (72, Tryz.f72), (46, Tryz.f46), (21, Tryz.f21), (47, Tryz.f47), (22, Tryz.f22), (8, Tryz.f8), (3, Tryz.f3)]
noncomputable def fs : Nat → Option Func := getF fsL
theorem MIX : Tryz.prog.follows .mixedOrders = true := by kernel_rfl
theorem TY : tyCheck Tryz.prog tb = true := by kernel_rfl
theorem CAT : catCheck tb = true := by kernel_rfl
theorem FSP : FsP Tryz.prog fsL := ⟨Tryz.func77, Tryz.func74, Tryz.func48, Tryz.func93, Tryz.func94, Tryz.func75, Tryz.func49, Tryz.func52, Tryz.func95, Tryz.func76, Tryz.func50, Tryz.func51, Tryz.func23, Tryz.func9, Tryz.func24, Tryz.func10, Tryz.func4, Tryz.func82, Tryz.func78, Tryz.func54, Tryz.func96, Tryz.func97, Tryz.func98, Tryz.func79, Tryz.func55, Tryz.func58, Tryz.func99, Tryz.func80, Tryz.func56, Tryz.func81, Tryz.func57, Tryz.func29, Tryz.func14, Tryz.func30, Tryz.func15, Tryz.func6, Tryz.func11, Tryz.func53, Tryz.func25, Tryz.func26, Tryz.func28, Tryz.func27, Tryz.func12, Tryz.func13, Tryz.func5, Tryz.func16, Tryz.func31, Tryz.func85, Tryz.func84, Tryz.func100, Tryz.func83, Tryz.func60, Tryz.func34, Tryz.func33, Tryz.func59, Tryz.func32, Tryz.func63, Tryz.func86, Tryz.func62, Tryz.func37, Tryz.func36, Tryz.func61, Tryz.func35, Tryz.func43, Tryz.func68, Tryz.func45, Tryz.func66, Tryz.func87, Tryz.func65, Tryz.func40, Tryz.func39, Tryz.func64, Tryz.func38, Tryz.func42, Tryz.func67, Tryz.func41, Tryz.func17, Tryz.func20, Tryz.func19, Tryz.func44, Tryz.func18, Tryz.func7, Tryz.func92, Tryz.func88, Tryz.func69, Tryz.func101, Tryz.func102, Tryz.func103, Tryz.func89, Tryz.func70, Tryz.func73, Tryz.func104, Tryz.func90, Tryz.func71, Tryz.func91, Tryz.func72, Tryz.func46, Tryz.func21, Tryz.func47, Tryz.func22, Tryz.func8, Tryz.func3, trivial⟩
theorem FSC : (fsL.all fun p => fnChk p.2) = true := by kernel_rfl
theorem FS : FsS Tryz.prog fs := FsS.of FSP FSC
/-! laws.szIntS: function 77 -/
noncomputable def f_laws_szIntS (x0 : List Int) (x1 : Int) : Option (Int) :=
  bif (decide ((IntKind.wrap .i64 (x1 - (x0.length : Int))) < (0 : Int))) then
    some (-1)
  else
    some (IntKind.wrap .i64 (x1 - (x0.length : Int)))
noncomputable def C77 : Con := ⟨[(.B, false, [(.sl R0)]), (.B, false, [(.int .i64)])], [(false, [(.int .i64)])], [(.sl R0), (.int .i64)], [(.int .i64)], fun (p : List Int × Int) => f_laws_szIntS p.1 p.2⟩
noncomputable abbrev K77 : Cons := []
noncomputable abbrev L77 : List (Nat × Loops) := []
abbrev Q77 : List (Nat × List (Int × Nat) × Nat) := []
noncomputable abbrev X77 : Nat → Ctx := ctxOf tb K77 L77 Q77
theorem E77 : ∀ x, funRun fs X77 6 77 C77 x = C77.fn x := fun x => by kernel_rfl
theorem B77 : ConB Tryz.prog 77 C77 := ConB.make FS MIX TY (cons := K77) (L := L77) (ptrs := Q77) trivial trivial trivial rfl rfl E77
theorem S77 : ConS Tryz.prog 77 C77 := B77.call rfl
/-! laws.szFrame: function 74 -/
noncomputable def f_laws_szFrame (x0 : Int) (x1 : List Int) (x2 : Bool) (x3 : Int) : Option (Int) :=
  (f_laws_szIntS x1 x3).bind fun y1 =>
  bif (decide (y1 < (0 : Int))) then
    some (-1)
  else
    some y1
noncomputable def C74 : Con := ⟨[(.B, true, [(.int .i64), (.sl R0), .bool]), (.B, false, [(.int .i64)])], [(false, [(.int .i64)])], [(.int .i64), (.sl R0), .bool, (.int .i64)], [(.int .i64)], fun (p : Int × List Int × Bool × Int) => f_laws_szFrame p.1 p.2.1 p.2.2.1 p.2.2.2⟩
noncomputable abbrev K74 : Cons := [(77, C77)]
noncomputable abbrev L74 : List (Nat × Loops) := []
abbrev Q74 : List (Nat × List (Int × Nat) × Nat) := []
noncomputable abbrev X74 : Nat → Ctx := ctxOf tb K74 L74 Q74
theorem E74 : ∀ x, funRun fs X74 6 74 C74 x = C74.fn x := fun x => by kernel_rfl
theorem B74 : ConB Tryz.prog 74 C74 := ConB.make FS MIX TY (cons := K74) (L := L74) (ptrs := Q74) ⟨S77, trivial⟩ trivial trivial rfl rfl E74
theorem S74 : ConS Tryz.prog 74 C74 := B74.call rfl
/-! laws.szFrameS: function 48 -/
noncomputable def f_laws_szFrameS.l0 : Nat → (List (Int × List Int × Bool)) → Int → Int → Int → Option ((Int) ⊕ (Int × Int))
  | 0, _, _, _, _ => none
  | n + 1, p2, p3, p4, p5 =>
    bif (decide (p5 < (p2.length : Int))) then
      bif ((decide ((0 : Int) ≤ p5)) && (decide (p5 < (p2.length : Int)))) then
      (f_laws_szFrame ((p2.getD p5.toNat (0, [], false)).1) ((p2.getD p5.toNat (0, [], false)).2.1) ((p2.getD p5.toNat (0, [], false)).2.2) p3).bind fun y6 =>
      bif (decide (y6 < (0 : Int))) then
        some (.inl (-1))
      else
        f_laws_szFrameS.l0 n p2 y6 p4 (IntKind.wrap .i64 (p5 + (1 : Int)))
      else none
    else
      some (.inr (p3, p4))
noncomputable def f_laws_szFrameS (x0 : List (Int × List Int × Bool)) (x1 : Int) : Option (Int) :=
  bif (decide ((IntKind.wrap .i64 (x1 - (x0.length : Int))) < (0 : Int))) then
    some (-1)
  else
    (f_laws_szFrameS.l0 N x0 (IntKind.wrap .i64 (x1 - (x0.length : Int))) 0 0).bind fun r7 =>
    cs r7 (fun a8 =>
      some a8) (fun b9 =>
      some b9.1)
noncomputable def C48 : Con := ⟨[(.B, false, [(.sl R1)]), (.B, false, [(.int .i64)])], [(false, [(.int .i64)])], [(.sl R1), (.int .i64)], [(.int .i64)], fun (p : (List (Int × List Int × Bool)) × Int) => f_laws_szFrameS p.1 p.2⟩
noncomputable def f_laws_szFrameS.l0.c : LoopCon := ⟨1000, 6, [0, 1, 4, 5], ⟨[(0, .bor none R1 []), (1, .int .i64 0), (4, .int .i64 0), (5, .int .i64 0)], [], 1000⟩, [(.sl R1), (.int .i64), (.int .i64), (.int .i64)], [⟨.ret, [4], ⟨[(4, .int .i64 0)], [], 1000⟩, [(.int .i64)]⟩, ⟨.exit 0, [1, 4], ⟨[(1, .int .i64 0), (4, .int .i64 0)], [], 1000⟩, [(.int .i64), (.int .i64)]⟩], fun (p : (List (Int × List Int × Bool)) × Int × Int × Int) => f_laws_szFrameS.l0 N p.1 p.2.1 p.2.2.1 p.2.2.2⟩
noncomputable abbrev K48 : Cons := [(74, C74)]
noncomputable abbrev L48 : List (Nat × Loops) := [(48, [(5, f_laws_szFrameS.l0.c)])]
abbrev Q48 : List (Nat × List (Int × Nat) × Nat) := []
noncomputable abbrev X48 : Nat → Ctx := ctxOf tb K48 L48 Q48
theorem f_laws_szFrameS.l0.ok : ∀ n p, (fun (p : (List (Int × List Int × Bool)) × Int × Int × Int) => f_laws_szFrameS.l0 n p.1 p.2.1 p.2.2.1 p.2.2.2) p = iterD (roundOf fs X48 6 48 5 false f_laws_szFrameS.l0.c) n p :=
  iter_of (l := fun n => fun (p : (List (Int × List Int × Bool)) × Int × Int × Int) => f_laws_szFrameS.l0 n p.1 p.2.1 p.2.2.1 p.2.2.2) (fun _ => rfl) (fun n p => by kernel_rfl)
theorem E48 : ∀ x, funRun fs X48 6 48 C48 x = C48.fn x := fun x => by kernel_rfl
theorem B48 : ConB Tryz.prog 48 C48 := ConB.make FS MIX TY (cons := K48) (L := L48) (ptrs := Q48) ⟨S74, trivial⟩ trivial ⟨⟨⟨N, fun p => f_laws_szFrameS.l0.ok N p⟩, trivial⟩, trivial⟩ rfl rfl E48
theorem S48 : ConS Tryz.prog 48 C48 := B48.call rfl
/-! laws.szBoolS: function 93 -/
noncomputable def f_laws_szBoolS (x0 : List Bool) (x1 : Int) : Option (Int) :=
  bif (decide ((IntKind.wrap .i64 (x1 - (x0.length : Int))) < (0 : Int))) then
    some (-1)
  else
    some (IntKind.wrap .i64 (x1 - (x0.length : Int)))
noncomputable def C93 : Con := ⟨[(.B, false, [(.sl R2)]), (.B, false, [(.int .i64)])], [(false, [(.int .i64)])], [(.sl R2), (.int .i64)], [(.int .i64)], fun (p : List Bool × Int) => f_laws_szBoolS p.1 p.2⟩
noncomputable abbrev K93 : Cons := []
noncomputable abbrev L93 : List (Nat × Loops) := []
abbrev Q93 : List (Nat × List (Int × Nat) × Nat) := []
noncomputable abbrev X93 : Nat → Ctx := ctxOf tb K93 L93 Q93
theorem E93 : ∀ x, funRun fs X93 6 93 C93 x = C93.fn x := fun x => by kernel_rfl
theorem B93 : ConB Tryz.prog 93 C93 := ConB.make FS MIX TY (cons := K93) (L := L93) (ptrs := Q93) trivial trivial trivial rfl rfl E93
theorem S93 : ConS Tryz.prog 93 C93 := B93.call rfl
/-! laws.szWaitS: function 94 -/
noncomputable def f_laws_szWaitS (x0 : List (Int × Bool)) (x1 : Int) : Option (Int) :=
  bif (decide ((IntKind.wrap .i64 (x1 - (x0.length : Int))) < (0 : Int))) then
    some (-1)
  else
    some (IntKind.wrap .i64 (x1 - (x0.length : Int)))
noncomputable def C94 : Con := ⟨[(.B, false, [(.sl R3)]), (.B, false, [(.int .i64)])], [(false, [(.int .i64)])], [(.sl R3), (.int .i64)], [(.int .i64)], fun (p : (List (Int × Bool)) × Int) => f_laws_szWaitS p.1 p.2⟩
noncomputable abbrev K94 : Cons := []
noncomputable abbrev L94 : List (Nat × Loops) := []
abbrev Q94 : List (Nat × List (Int × Nat) × Nat) := []
noncomputable abbrev X94 : Nat → Ctx := ctxOf tb K94 L94 Q94
theorem E94 : ∀ x, funRun fs X94 6 94 C94 x = C94.fn x := fun x => by kernel_rfl
theorem B94 : ConB Tryz.prog 94 C94 := ConB.make FS MIX TY (cons := K94) (L := L94) (ptrs := Q94) trivial trivial trivial rfl rfl E94
theorem S94 : ConS Tryz.prog 94 C94 := B94.call rfl
/-! laws.szHome: function 75 -/
noncomputable def f_laws_szHome (x0 : List Int) (x1 : Int) (x2 : List Bool) (x3 : Bool) (x4 : Int) (x5 : Bool) (x6 : Int) (x7 : List (Int × Bool)) (x8 : Int) : Option (Int) :=
  (f_laws_szIntS x0 x8).bind fun y10 =>
  bif (decide (y10 < (0 : Int))) then
    some (-1)
  else
    (f_laws_szBoolS x2 y10).bind fun y11 =>
    bif (decide (y11 < (0 : Int))) then
      some (-1)
    else
      (f_laws_szWaitS x7 y11).bind fun y12 =>
      bif (decide (y12 < (0 : Int))) then
        some (-1)
      else
        some y12
noncomputable def C75 : Con := ⟨[(.B, true, [(.sl R0), (.int .i64), (.sl R2), .bool, (.int .i64), .bool, (.int .i64), (.sl R3)]), (.B, false, [(.int .i64)])], [(false, [(.int .i64)])], [(.sl R0), (.int .i64), (.sl R2), .bool, (.int .i64), .bool, (.int .i64), (.sl R3), (.int .i64)], [(.int .i64)], fun (p : List Int × Int × List Bool × Bool × Int × Bool × Int × (List (Int × Bool)) × Int) => f_laws_szHome p.1 p.2.1 p.2.2.1 p.2.2.2.1 p.2.2.2.2.1 p.2.2.2.2.2.1 p.2.2.2.2.2.2.1 p.2.2.2.2.2.2.2.1 p.2.2.2.2.2.2.2.2⟩
noncomputable abbrev K75 : Cons := [(77, C77), (93, C93), (94, C94)]
noncomputable abbrev L75 : List (Nat × Loops) := []
abbrev Q75 : List (Nat × List (Int × Nat) × Nat) := []
noncomputable abbrev X75 : Nat → Ctx := ctxOf tb K75 L75 Q75
theorem E75 : ∀ x, funRun fs X75 6 75 C75 x = C75.fn x := fun x => by kernel_rfl
theorem B75 : ConB Tryz.prog 75 C75 := ConB.make FS MIX TY (cons := K75) (L := L75) (ptrs := Q75) ⟨S77, S93, S94, trivial⟩ trivial trivial rfl rfl E75
theorem S75 : ConS Tryz.prog 75 C75 := B75.call rfl
/-! laws.szHomeS: function 49 -/
noncomputable def f_laws_szHomeS.l0 : Nat → (List (List Int × Int × List Bool × Bool × Int × Bool × Int × (List (Int × Bool)))) → Int → Int → Int → Option ((Int) ⊕ (Int × Int))
  | 0, _, _, _, _ => none
  | n + 1, p13, p14, p15, p16 =>
    bif (decide (p16 < (p13.length : Int))) then
      bif ((decide ((0 : Int) ≤ p16)) && (decide (p16 < (p13.length : Int)))) then
      (f_laws_szHome ((p13.getD p16.toNat ([], 0, [], false, 0, false, 0, [])).1) ((p13.getD p16.toNat ([], 0, [], false, 0, false, 0, [])).2.1) ((p13.getD p16.toNat ([], 0, [], false, 0, false, 0, [])).2.2.1) ((p13.getD p16.toNat ([], 0, [], false, 0, false, 0, [])).2.2.2.1) ((p13.getD p16.toNat ([], 0, [], false, 0, false, 0, [])).2.2.2.2.1) ((p13.getD p16.toNat ([], 0, [], false, 0, false, 0, [])).2.2.2.2.2.1) ((p13.getD p16.toNat ([], 0, [], false, 0, false, 0, [])).2.2.2.2.2.2.1) ((p13.getD p16.toNat ([], 0, [], false, 0, false, 0, [])).2.2.2.2.2.2.2) p14).bind fun y17 =>
      bif (decide (y17 < (0 : Int))) then
        some (.inl (-1))
      else
        f_laws_szHomeS.l0 n p13 y17 p15 (IntKind.wrap .i64 (p16 + (1 : Int)))
      else none
    else
      some (.inr (p14, p15))
noncomputable def f_laws_szHomeS (x0 : List (List Int × Int × List Bool × Bool × Int × Bool × Int × (List (Int × Bool)))) (x1 : Int) : Option (Int) :=
  bif (decide ((IntKind.wrap .i64 (x1 - (x0.length : Int))) < (0 : Int))) then
    some (-1)
  else
    (f_laws_szHomeS.l0 N x0 (IntKind.wrap .i64 (x1 - (x0.length : Int))) 0 0).bind fun r18 =>
    cs r18 (fun a19 =>
      some a19) (fun b20 =>
      some b20.1)
noncomputable def C49 : Con := ⟨[(.B, false, [(.sl R4)]), (.B, false, [(.int .i64)])], [(false, [(.int .i64)])], [(.sl R4), (.int .i64)], [(.int .i64)], fun (p : (List (List Int × Int × List Bool × Bool × Int × Bool × Int × (List (Int × Bool)))) × Int) => f_laws_szHomeS p.1 p.2⟩
noncomputable def f_laws_szHomeS.l0.c : LoopCon := ⟨1000, 6, [0, 1, 4, 5], ⟨[(0, .bor none R4 []), (1, .int .i64 0), (4, .int .i64 0), (5, .int .i64 0)], [], 1000⟩, [(.sl R4), (.int .i64), (.int .i64), (.int .i64)], [⟨.ret, [4], ⟨[(4, .int .i64 0)], [], 1000⟩, [(.int .i64)]⟩, ⟨.exit 0, [1, 4], ⟨[(1, .int .i64 0), (4, .int .i64 0)], [], 1000⟩, [(.int .i64), (.int .i64)]⟩], fun (p : (List (List Int × Int × List Bool × Bool × Int × Bool × Int × (List (Int × Bool)))) × Int × Int × Int) => f_laws_szHomeS.l0 N p.1 p.2.1 p.2.2.1 p.2.2.2⟩
noncomputable abbrev K49 : Cons := [(75, C75)]
noncomputable abbrev L49 : List (Nat × Loops) := [(49, [(5, f_laws_szHomeS.l0.c)])]
abbrev Q49 : List (Nat × List (Int × Nat) × Nat) := []
noncomputable abbrev X49 : Nat → Ctx := ctxOf tb K49 L49 Q49
theorem f_laws_szHomeS.l0.ok : ∀ n p, (fun (p : (List (List Int × Int × List Bool × Bool × Int × Bool × Int × (List (Int × Bool)))) × Int × Int × Int) => f_laws_szHomeS.l0 n p.1 p.2.1 p.2.2.1 p.2.2.2) p = iterD (roundOf fs X49 6 49 5 false f_laws_szHomeS.l0.c) n p :=
  iter_of (l := fun n => fun (p : (List (List Int × Int × List Bool × Bool × Int × Bool × Int × (List (Int × Bool)))) × Int × Int × Int) => f_laws_szHomeS.l0 n p.1 p.2.1 p.2.2.1 p.2.2.2) (fun _ => rfl) (fun n p => by kernel_rfl)
theorem E49 : ∀ x, funRun fs X49 6 49 C49 x = C49.fn x := fun x => by kernel_rfl
theorem B49 : ConB Tryz.prog 49 C49 := ConB.make FS MIX TY (cons := K49) (L := L49) (ptrs := Q49) ⟨S75, trivial⟩ trivial ⟨⟨⟨N, fun p => f_laws_szHomeS.l0.ok N p⟩, trivial⟩, trivial⟩ rfl rfl E49
theorem S49 : ConS Tryz.prog 49 C49 := B49.call rfl
/-! laws.szMsg: function 52 -/
noncomputable def f_laws_szMsg (x0 : Int) (x1 : Int) (x2 : Bool) (x3 : List Int) (x4 : Int) : Option (Int) :=
  (f_laws_szIntS x3 x4).bind fun y21 =>
  bif (decide (y21 < (0 : Int))) then
    some (-1)
  else
    some y21
noncomputable def C52 : Con := ⟨[(.B, true, [(.int .i64), (.int .i64), .bool, (.sl R0)]), (.B, false, [(.int .i64)])], [(false, [(.int .i64)])], [(.int .i64), (.int .i64), .bool, (.sl R0), (.int .i64)], [(.int .i64)], fun (p : Int × Int × Bool × List Int × Int) => f_laws_szMsg p.1 p.2.1 p.2.2.1 p.2.2.2.1 p.2.2.2.2⟩
noncomputable abbrev K52 : Cons := [(77, C77)]
noncomputable abbrev L52 : List (Nat × Loops) := []
abbrev Q52 : List (Nat × List (Int × Nat) × Nat) := []
noncomputable abbrev X52 : Nat → Ctx := ctxOf tb K52 L52 Q52
theorem E52 : ∀ x, funRun fs X52 6 52 C52 x = C52.fn x := fun x => by kernel_rfl
theorem B52 : ConB Tryz.prog 52 C52 := ConB.make FS MIX TY (cons := K52) (L := L52) (ptrs := Q52) ⟨S77, trivial⟩ trivial trivial rfl rfl E52
theorem S52 : ConS Tryz.prog 52 C52 := B52.call rfl
/-! laws.szMsgS: function 95 -/
noncomputable def f_laws_szMsgS.l0 : Nat → (List (Int × Int × Bool × List Int)) → Int → Int → Int → Option ((Int) ⊕ (Int × Int))
  | 0, _, _, _, _ => none
  | n + 1, p22, p23, p24, p25 =>
    bif (decide (p25 < (p22.length : Int))) then
      bif ((decide ((0 : Int) ≤ p25)) && (decide (p25 < (p22.length : Int)))) then
      (f_laws_szMsg ((p22.getD p25.toNat (0, 0, false, [])).1) ((p22.getD p25.toNat (0, 0, false, [])).2.1) ((p22.getD p25.toNat (0, 0, false, [])).2.2.1) ((p22.getD p25.toNat (0, 0, false, [])).2.2.2) p23).bind fun y26 =>
      bif (decide (y26 < (0 : Int))) then
        some (.inl (-1))
      else
        f_laws_szMsgS.l0 n p22 y26 p24 (IntKind.wrap .i64 (p25 + (1 : Int)))
      else none
    else
      some (.inr (p23, p24))
noncomputable def f_laws_szMsgS (x0 : List (Int × Int × Bool × List Int)) (x1 : Int) : Option (Int) :=
  bif (decide ((IntKind.wrap .i64 (x1 - (x0.length : Int))) < (0 : Int))) then
    some (-1)
  else
    (f_laws_szMsgS.l0 N x0 (IntKind.wrap .i64 (x1 - (x0.length : Int))) 0 0).bind fun r27 =>
    cs r27 (fun a28 =>
      some a28) (fun b29 =>
      some b29.1)
noncomputable def C95 : Con := ⟨[(.B, false, [(.sl R5)]), (.B, false, [(.int .i64)])], [(false, [(.int .i64)])], [(.sl R5), (.int .i64)], [(.int .i64)], fun (p : (List (Int × Int × Bool × List Int)) × Int) => f_laws_szMsgS p.1 p.2⟩
noncomputable def f_laws_szMsgS.l0.c : LoopCon := ⟨1000, 6, [0, 1, 4, 5], ⟨[(0, .bor none R5 []), (1, .int .i64 0), (4, .int .i64 0), (5, .int .i64 0)], [], 1000⟩, [(.sl R5), (.int .i64), (.int .i64), (.int .i64)], [⟨.ret, [4], ⟨[(4, .int .i64 0)], [], 1000⟩, [(.int .i64)]⟩, ⟨.exit 0, [1, 4], ⟨[(1, .int .i64 0), (4, .int .i64 0)], [], 1000⟩, [(.int .i64), (.int .i64)]⟩], fun (p : (List (Int × Int × Bool × List Int)) × Int × Int × Int) => f_laws_szMsgS.l0 N p.1 p.2.1 p.2.2.1 p.2.2.2⟩
noncomputable abbrev K95 : Cons := [(52, C52)]
noncomputable abbrev L95 : List (Nat × Loops) := [(95, [(5, f_laws_szMsgS.l0.c)])]
abbrev Q95 : List (Nat × List (Int × Nat) × Nat) := []
noncomputable abbrev X95 : Nat → Ctx := ctxOf tb K95 L95 Q95
theorem f_laws_szMsgS.l0.ok : ∀ n p, (fun (p : (List (Int × Int × Bool × List Int)) × Int × Int × Int) => f_laws_szMsgS.l0 n p.1 p.2.1 p.2.2.1 p.2.2.2) p = iterD (roundOf fs X95 6 95 5 false f_laws_szMsgS.l0.c) n p :=
  iter_of (l := fun n => fun (p : (List (Int × Int × Bool × List Int)) × Int × Int × Int) => f_laws_szMsgS.l0 n p.1 p.2.1 p.2.2.1 p.2.2.2) (fun _ => rfl) (fun n p => by kernel_rfl)
theorem E95 : ∀ x, funRun fs X95 6 95 C95 x = C95.fn x := fun x => by kernel_rfl
theorem B95 : ConB Tryz.prog 95 C95 := ConB.make FS MIX TY (cons := K95) (L := L95) (ptrs := Q95) ⟨S52, trivial⟩ trivial ⟨⟨⟨N, fun p => f_laws_szMsgS.l0.ok N p⟩, trivial⟩, trivial⟩ rfl rfl E95
theorem S95 : ConS Tryz.prog 95 C95 := B95.call rfl
/-! laws.szSender: function 76 -/
noncomputable def f_laws_szSender (x0 : Int) (x1 : List (Int × Int × Bool × List Int)) (x2 : Int) : Option (Int) :=
  (f_laws_szMsgS x1 x2).bind fun y30 =>
  bif (decide (y30 < (0 : Int))) then
    some (-1)
  else
    some y30
noncomputable def C76 : Con := ⟨[(.B, true, [(.int .i64), (.sl R5)]), (.B, false, [(.int .i64)])], [(false, [(.int .i64)])], [(.int .i64), (.sl R5), (.int .i64)], [(.int .i64)], fun (p : Int × (List (Int × Int × Bool × List Int)) × Int) => f_laws_szSender p.1 p.2.1 p.2.2⟩
noncomputable abbrev K76 : Cons := [(95, C95)]
noncomputable abbrev L76 : List (Nat × Loops) := []
abbrev Q76 : List (Nat × List (Int × Nat) × Nat) := []
noncomputable abbrev X76 : Nat → Ctx := ctxOf tb K76 L76 Q76
theorem E76 : ∀ x, funRun fs X76 6 76 C76 x = C76.fn x := fun x => by kernel_rfl
theorem B76 : ConB Tryz.prog 76 C76 := ConB.make FS MIX TY (cons := K76) (L := L76) (ptrs := Q76) ⟨S95, trivial⟩ trivial trivial rfl rfl E76
theorem S76 : ConS Tryz.prog 76 C76 := B76.call rfl
/-! laws.szSenderS: function 50 -/
noncomputable def f_laws_szSenderS.l0 : Nat → (List (Int × (List (Int × Int × Bool × List Int)))) → Int → Int → Int → Option ((Int) ⊕ (Int × Int))
  | 0, _, _, _, _ => none
  | n + 1, p31, p32, p33, p34 =>
    bif (decide (p34 < (p31.length : Int))) then
      bif ((decide ((0 : Int) ≤ p34)) && (decide (p34 < (p31.length : Int)))) then
      (f_laws_szSender ((p31.getD p34.toNat (0, [])).1) ((p31.getD p34.toNat (0, [])).2) p32).bind fun y35 =>
      bif (decide (y35 < (0 : Int))) then
        some (.inl (-1))
      else
        f_laws_szSenderS.l0 n p31 y35 p33 (IntKind.wrap .i64 (p34 + (1 : Int)))
      else none
    else
      some (.inr (p32, p33))
noncomputable def f_laws_szSenderS (x0 : List (Int × (List (Int × Int × Bool × List Int)))) (x1 : Int) : Option (Int) :=
  bif (decide ((IntKind.wrap .i64 (x1 - (x0.length : Int))) < (0 : Int))) then
    some (-1)
  else
    (f_laws_szSenderS.l0 N x0 (IntKind.wrap .i64 (x1 - (x0.length : Int))) 0 0).bind fun r36 =>
    cs r36 (fun a37 =>
      some a37) (fun b38 =>
      some b38.1)
noncomputable def C50 : Con := ⟨[(.B, false, [(.sl R6)]), (.B, false, [(.int .i64)])], [(false, [(.int .i64)])], [(.sl R6), (.int .i64)], [(.int .i64)], fun (p : (List (Int × (List (Int × Int × Bool × List Int)))) × Int) => f_laws_szSenderS p.1 p.2⟩
noncomputable def f_laws_szSenderS.l0.c : LoopCon := ⟨1000, 6, [0, 1, 4, 5], ⟨[(0, .bor none R6 []), (1, .int .i64 0), (4, .int .i64 0), (5, .int .i64 0)], [], 1000⟩, [(.sl R6), (.int .i64), (.int .i64), (.int .i64)], [⟨.ret, [4], ⟨[(4, .int .i64 0)], [], 1000⟩, [(.int .i64)]⟩, ⟨.exit 0, [1, 4], ⟨[(1, .int .i64 0), (4, .int .i64 0)], [], 1000⟩, [(.int .i64), (.int .i64)]⟩], fun (p : (List (Int × (List (Int × Int × Bool × List Int)))) × Int × Int × Int) => f_laws_szSenderS.l0 N p.1 p.2.1 p.2.2.1 p.2.2.2⟩
noncomputable abbrev K50 : Cons := [(76, C76)]
noncomputable abbrev L50 : List (Nat × Loops) := [(50, [(5, f_laws_szSenderS.l0.c)])]
abbrev Q50 : List (Nat × List (Int × Nat) × Nat) := []
noncomputable abbrev X50 : Nat → Ctx := ctxOf tb K50 L50 Q50
theorem f_laws_szSenderS.l0.ok : ∀ n p, (fun (p : (List (Int × (List (Int × Int × Bool × List Int)))) × Int × Int × Int) => f_laws_szSenderS.l0 n p.1 p.2.1 p.2.2.1 p.2.2.2) p = iterD (roundOf fs X50 6 50 5 false f_laws_szSenderS.l0.c) n p :=
  iter_of (l := fun n => fun (p : (List (Int × (List (Int × Int × Bool × List Int)))) × Int × Int × Int) => f_laws_szSenderS.l0 n p.1 p.2.1 p.2.2.1 p.2.2.2) (fun _ => rfl) (fun n p => by kernel_rfl)
theorem E50 : ∀ x, funRun fs X50 6 50 C50 x = C50.fn x := fun x => by kernel_rfl
theorem B50 : ConB Tryz.prog 50 C50 := ConB.make FS MIX TY (cons := K50) (L := L50) (ptrs := Q50) ⟨S76, trivial⟩ trivial ⟨⟨⟨N, fun p => f_laws_szSenderS.l0.ok N p⟩, trivial⟩, trivial⟩ rfl rfl E50
theorem S50 : ConS Tryz.prog 50 C50 := B50.call rfl
/-! laws.szReceiverS: function 51 -/
noncomputable def f_laws_szReceiverS (x0 : List Int) (x1 : Int) : Option (Int) :=
  bif (decide ((IntKind.wrap .i64 (x1 - (x0.length : Int))) < (0 : Int))) then
    some (-1)
  else
    some (IntKind.wrap .i64 (x1 - (x0.length : Int)))
noncomputable def C51 : Con := ⟨[(.B, false, [(.sl R0)]), (.B, false, [(.int .i64)])], [(false, [(.int .i64)])], [(.sl R0), (.int .i64)], [(.int .i64)], fun (p : List Int × Int) => f_laws_szReceiverS p.1 p.2⟩
noncomputable abbrev K51 : Cons := []
noncomputable abbrev L51 : List (Nat × Loops) := []
abbrev Q51 : List (Nat × List (Int × Nat) × Nat) := []
noncomputable abbrev X51 : Nat → Ctx := ctxOf tb K51 L51 Q51
theorem E51 : ∀ x, funRun fs X51 6 51 C51 x = C51.fn x := fun x => by kernel_rfl
theorem B51 : ConB Tryz.prog 51 C51 := ConB.make FS MIX TY (cons := K51) (L := L51) (ptrs := Q51) trivial trivial trivial rfl rfl E51
theorem S51 : ConS Tryz.prog 51 C51 := B51.call rfl
/-! laws.szNode: function 23 -/
noncomputable def f_laws_szNode (x0 : Int) (x1 : List (Int × List Int × Bool)) (x2 : List (List Int × Int × List Bool × Bool × Int × Bool × Int × (List (Int × Bool)))) (x3 : List (Int × (List (Int × Int × Bool × List Int)))) (x4 : List Int) (x5 : Int) : Option (Int) :=
  (f_laws_szFrameS x1 x5).bind fun y39 =>
  bif (decide (y39 < (0 : Int))) then
    some (-1)
  else
    (f_laws_szHomeS x2 y39).bind fun y40 =>
    bif (decide (y40 < (0 : Int))) then
      some (-1)
    else
      (f_laws_szSenderS x3 y40).bind fun y41 =>
      bif (decide (y41 < (0 : Int))) then
        some (-1)
      else
        (f_laws_szReceiverS x4 y41).bind fun y42 =>
        bif (decide (y42 < (0 : Int))) then
          some (-1)
        else
          some y42
noncomputable def C23 : Con := ⟨[(.B, true, [(.int .i64), (.sl R1), (.sl R4), (.sl R6), (.sl R0)]), (.B, false, [(.int .i64)])], [(false, [(.int .i64)])], [(.int .i64), (.sl R1), (.sl R4), (.sl R6), (.sl R0), (.int .i64)], [(.int .i64)], fun (p : Int × (List (Int × List Int × Bool)) × (List (List Int × Int × List Bool × Bool × Int × Bool × Int × (List (Int × Bool)))) × (List (Int × (List (Int × Int × Bool × List Int)))) × List Int × Int) => f_laws_szNode p.1 p.2.1 p.2.2.1 p.2.2.2.1 p.2.2.2.2.1 p.2.2.2.2.2⟩
noncomputable abbrev K23 : Cons := [(48, C48), (49, C49), (50, C50), (51, C51)]
noncomputable abbrev L23 : List (Nat × Loops) := []
abbrev Q23 : List (Nat × List (Int × Nat) × Nat) := []
noncomputable abbrev X23 : Nat → Ctx := ctxOf tb K23 L23 Q23
theorem E23 : ∀ x, funRun fs X23 6 23 C23 x = C23.fn x := fun x => by kernel_rfl
theorem B23 : ConB Tryz.prog 23 C23 := ConB.make FS MIX TY (cons := K23) (L := L23) (ptrs := Q23) ⟨S48, S49, S50, S51, trivial⟩ trivial trivial rfl rfl E23
theorem S23 : ConS Tryz.prog 23 C23 := B23.call rfl
/-! laws.szNodeS: function 9 -/
noncomputable def f_laws_szNodeS.l0 : Nat → (List (Int × (List (Int × List Int × Bool)) × (List (List Int × Int × List Bool × Bool × Int × Bool × Int × (List (Int × Bool)))) × (List (Int × (List (Int × Int × Bool × List Int)))) × List Int)) → Int → Int → Int → Option ((Int) ⊕ (Int × Int))
  | 0, _, _, _, _ => none
  | n + 1, p43, p44, p45, p46 =>
    bif (decide (p46 < (p43.length : Int))) then
      bif ((decide ((0 : Int) ≤ p46)) && (decide (p46 < (p43.length : Int)))) then
      (f_laws_szNode ((p43.getD p46.toNat (0, [], [], [], [])).1) ((p43.getD p46.toNat (0, [], [], [], [])).2.1) ((p43.getD p46.toNat (0, [], [], [], [])).2.2.1) ((p43.getD p46.toNat (0, [], [], [], [])).2.2.2.1) ((p43.getD p46.toNat (0, [], [], [], [])).2.2.2.2) p44).bind fun y47 =>
      bif (decide (y47 < (0 : Int))) then
        some (.inl (-1))
      else
        f_laws_szNodeS.l0 n p43 y47 p45 (IntKind.wrap .i64 (p46 + (1 : Int)))
      else none
    else
      some (.inr (p44, p45))
noncomputable def f_laws_szNodeS (x0 : List (Int × (List (Int × List Int × Bool)) × (List (List Int × Int × List Bool × Bool × Int × Bool × Int × (List (Int × Bool)))) × (List (Int × (List (Int × Int × Bool × List Int)))) × List Int)) (x1 : Int) : Option (Int) :=
  bif (decide ((IntKind.wrap .i64 (x1 - (x0.length : Int))) < (0 : Int))) then
    some (-1)
  else
    (f_laws_szNodeS.l0 N x0 (IntKind.wrap .i64 (x1 - (x0.length : Int))) 0 0).bind fun r48 =>
    cs r48 (fun a49 =>
      some a49) (fun b50 =>
      some b50.1)
noncomputable def C9 : Con := ⟨[(.B, false, [(.sl R7)]), (.B, false, [(.int .i64)])], [(false, [(.int .i64)])], [(.sl R7), (.int .i64)], [(.int .i64)], fun (p : (List (Int × (List (Int × List Int × Bool)) × (List (List Int × Int × List Bool × Bool × Int × Bool × Int × (List (Int × Bool)))) × (List (Int × (List (Int × Int × Bool × List Int)))) × List Int)) × Int) => f_laws_szNodeS p.1 p.2⟩
noncomputable def f_laws_szNodeS.l0.c : LoopCon := ⟨1000, 6, [0, 1, 4, 5], ⟨[(0, .bor none R7 []), (1, .int .i64 0), (4, .int .i64 0), (5, .int .i64 0)], [], 1000⟩, [(.sl R7), (.int .i64), (.int .i64), (.int .i64)], [⟨.ret, [4], ⟨[(4, .int .i64 0)], [], 1000⟩, [(.int .i64)]⟩, ⟨.exit 0, [1, 4], ⟨[(1, .int .i64 0), (4, .int .i64 0)], [], 1000⟩, [(.int .i64), (.int .i64)]⟩], fun (p : (List (Int × (List (Int × List Int × Bool)) × (List (List Int × Int × List Bool × Bool × Int × Bool × Int × (List (Int × Bool)))) × (List (Int × (List (Int × Int × Bool × List Int)))) × List Int)) × Int × Int × Int) => f_laws_szNodeS.l0 N p.1 p.2.1 p.2.2.1 p.2.2.2⟩
noncomputable abbrev K9 : Cons := [(23, C23)]
noncomputable abbrev L9 : List (Nat × Loops) := [(9, [(5, f_laws_szNodeS.l0.c)])]
abbrev Q9 : List (Nat × List (Int × Nat) × Nat) := []
noncomputable abbrev X9 : Nat → Ctx := ctxOf tb K9 L9 Q9
theorem f_laws_szNodeS.l0.ok : ∀ n p, (fun (p : (List (Int × (List (Int × List Int × Bool)) × (List (List Int × Int × List Bool × Bool × Int × Bool × Int × (List (Int × Bool)))) × (List (Int × (List (Int × Int × Bool × List Int)))) × List Int)) × Int × Int × Int) => f_laws_szNodeS.l0 n p.1 p.2.1 p.2.2.1 p.2.2.2) p = iterD (roundOf fs X9 6 9 5 false f_laws_szNodeS.l0.c) n p :=
  iter_of (l := fun n => fun (p : (List (Int × (List (Int × List Int × Bool)) × (List (List Int × Int × List Bool × Bool × Int × Bool × Int × (List (Int × Bool)))) × (List (Int × (List (Int × Int × Bool × List Int)))) × List Int)) × Int × Int × Int) => f_laws_szNodeS.l0 n p.1 p.2.1 p.2.2.1 p.2.2.2) (fun _ => rfl) (fun n p => by kernel_rfl)
theorem E9 : ∀ x, funRun fs X9 6 9 C9 x = C9.fn x := fun x => by kernel_rfl
theorem B9 : ConB Tryz.prog 9 C9 := ConB.make FS MIX TY (cons := K9) (L := L9) (ptrs := Q9) ⟨S23, trivial⟩ trivial ⟨⟨⟨N, fun p => f_laws_szNodeS.l0.ok N p⟩, trivial⟩, trivial⟩ rfl rfl E9
theorem S9 : ConS Tryz.prog 9 C9 := B9.call rfl
/-! laws.szPacket: function 24 -/
noncomputable def f_laws_szPacket (x0 : Int) (x1 : Int) (x2 : Bool) (x3 : Int) (x4 : Int) (x5 : Int) (x6 : Bool) (x7 : List Int) (x8 : Int) : Option (Int) :=
  (f_laws_szMsg x4 x5 x6 x7 x8).bind fun y51 =>
  bif (decide (y51 < (0 : Int))) then
    some (-1)
  else
    some y51
noncomputable def C24 : Con := ⟨[(.B, true, [(.int .i64), (.int .i64), .bool, (.int .i64), (.int .i64), (.int .i64), .bool, (.sl R0)]), (.B, false, [(.int .i64)])], [(false, [(.int .i64)])], [(.int .i64), (.int .i64), .bool, (.int .i64), (.int .i64), (.int .i64), .bool, (.sl R0), (.int .i64)], [(.int .i64)], fun (p : Int × Int × Bool × Int × Int × Int × Bool × List Int × Int) => f_laws_szPacket p.1 p.2.1 p.2.2.1 p.2.2.2.1 p.2.2.2.2.1 p.2.2.2.2.2.1 p.2.2.2.2.2.2.1 p.2.2.2.2.2.2.2.1 p.2.2.2.2.2.2.2.2⟩
noncomputable abbrev K24 : Cons := [(52, C52)]
noncomputable abbrev L24 : List (Nat × Loops) := []
abbrev Q24 : List (Nat × List (Int × Nat) × Nat) := []
noncomputable abbrev X24 : Nat → Ctx := ctxOf tb K24 L24 Q24
theorem E24 : ∀ x, funRun fs X24 6 24 C24 x = C24.fn x := fun x => by kernel_rfl
theorem B24 : ConB Tryz.prog 24 C24 := ConB.make FS MIX TY (cons := K24) (L := L24) (ptrs := Q24) ⟨S52, trivial⟩ trivial trivial rfl rfl E24
theorem S24 : ConS Tryz.prog 24 C24 := B24.call rfl
/-! laws.szPacketS: function 10 -/
noncomputable def f_laws_szPacketS.l0 : Nat → (List (Int × Int × Bool × Int × Int × Int × Bool × List Int)) → Int → Int → Int → Option ((Int) ⊕ (Int × Int))
  | 0, _, _, _, _ => none
  | n + 1, p52, p53, p54, p55 =>
    bif (decide (p55 < (p52.length : Int))) then
      bif ((decide ((0 : Int) ≤ p55)) && (decide (p55 < (p52.length : Int)))) then
      (f_laws_szPacket ((p52.getD p55.toNat (0, 0, false, 0, 0, 0, false, [])).1) ((p52.getD p55.toNat (0, 0, false, 0, 0, 0, false, [])).2.1) ((p52.getD p55.toNat (0, 0, false, 0, 0, 0, false, [])).2.2.1) ((p52.getD p55.toNat (0, 0, false, 0, 0, 0, false, [])).2.2.2.1) ((p52.getD p55.toNat (0, 0, false, 0, 0, 0, false, [])).2.2.2.2.1) ((p52.getD p55.toNat (0, 0, false, 0, 0, 0, false, [])).2.2.2.2.2.1) ((p52.getD p55.toNat (0, 0, false, 0, 0, 0, false, [])).2.2.2.2.2.2.1) ((p52.getD p55.toNat (0, 0, false, 0, 0, 0, false, [])).2.2.2.2.2.2.2) p53).bind fun y56 =>
      bif (decide (y56 < (0 : Int))) then
        some (.inl (-1))
      else
        f_laws_szPacketS.l0 n p52 y56 p54 (IntKind.wrap .i64 (p55 + (1 : Int)))
      else none
    else
      some (.inr (p53, p54))
noncomputable def f_laws_szPacketS (x0 : List (Int × Int × Bool × Int × Int × Int × Bool × List Int)) (x1 : Int) : Option (Int) :=
  bif (decide ((IntKind.wrap .i64 (x1 - (x0.length : Int))) < (0 : Int))) then
    some (-1)
  else
    (f_laws_szPacketS.l0 N x0 (IntKind.wrap .i64 (x1 - (x0.length : Int))) 0 0).bind fun r57 =>
    cs r57 (fun a58 =>
      some a58) (fun b59 =>
      some b59.1)
noncomputable def C10 : Con := ⟨[(.B, false, [(.sl R8)]), (.B, false, [(.int .i64)])], [(false, [(.int .i64)])], [(.sl R8), (.int .i64)], [(.int .i64)], fun (p : (List (Int × Int × Bool × Int × Int × Int × Bool × List Int)) × Int) => f_laws_szPacketS p.1 p.2⟩
noncomputable def f_laws_szPacketS.l0.c : LoopCon := ⟨1000, 6, [0, 1, 4, 5], ⟨[(0, .bor none R8 []), (1, .int .i64 0), (4, .int .i64 0), (5, .int .i64 0)], [], 1000⟩, [(.sl R8), (.int .i64), (.int .i64), (.int .i64)], [⟨.ret, [4], ⟨[(4, .int .i64 0)], [], 1000⟩, [(.int .i64)]⟩, ⟨.exit 0, [1, 4], ⟨[(1, .int .i64 0), (4, .int .i64 0)], [], 1000⟩, [(.int .i64), (.int .i64)]⟩], fun (p : (List (Int × Int × Bool × Int × Int × Int × Bool × List Int)) × Int × Int × Int) => f_laws_szPacketS.l0 N p.1 p.2.1 p.2.2.1 p.2.2.2⟩
noncomputable abbrev K10 : Cons := [(24, C24)]
noncomputable abbrev L10 : List (Nat × Loops) := [(10, [(5, f_laws_szPacketS.l0.c)])]
abbrev Q10 : List (Nat × List (Int × Nat) × Nat) := []
noncomputable abbrev X10 : Nat → Ctx := ctxOf tb K10 L10 Q10
theorem f_laws_szPacketS.l0.ok : ∀ n p, (fun (p : (List (Int × Int × Bool × Int × Int × Int × Bool × List Int)) × Int × Int × Int) => f_laws_szPacketS.l0 n p.1 p.2.1 p.2.2.1 p.2.2.2) p = iterD (roundOf fs X10 6 10 5 false f_laws_szPacketS.l0.c) n p :=
  iter_of (l := fun n => fun (p : (List (Int × Int × Bool × Int × Int × Int × Bool × List Int)) × Int × Int × Int) => f_laws_szPacketS.l0 n p.1 p.2.1 p.2.2.1 p.2.2.2) (fun _ => rfl) (fun n p => by kernel_rfl)
theorem E10 : ∀ x, funRun fs X10 6 10 C10 x = C10.fn x := fun x => by kernel_rfl
theorem B10 : ConB Tryz.prog 10 C10 := ConB.make FS MIX TY (cons := K10) (L := L10) (ptrs := Q10) ⟨S24, trivial⟩ trivial ⟨⟨⟨N, fun p => f_laws_szPacketS.l0.ok N p⟩, trivial⟩, trivial⟩ rfl rfl E10
theorem S10 : ConS Tryz.prog 10 C10 := B10.call rfl
/-! laws.szWorld: function 4 -/
noncomputable def f_laws_szWorld (x0 : Int) (x1 : List (Int × (List (Int × List Int × Bool)) × (List (List Int × Int × List Bool × Bool × Int × Bool × Int × (List (Int × Bool)))) × (List (Int × (List (Int × Int × Bool × List Int)))) × List Int)) (x2 : List (Int × Int × Bool × Int × Int × Int × Bool × List Int)) (x3 : Int) : Option (Int) :=
  (f_laws_szNodeS x1 x3).bind fun y60 =>
  bif (decide (y60 < (0 : Int))) then
    some (-1)
  else
    (f_laws_szPacketS x2 y60).bind fun y61 =>
    bif (decide (y61 < (0 : Int))) then
      some (-1)
    else
      some y61
noncomputable def C4 : Con := ⟨[(.B, true, [(.int .i64), (.sl R7), (.sl R8)]), (.B, false, [(.int .i64)])], [(false, [(.int .i64)])], [(.int .i64), (.sl R7), (.sl R8), (.int .i64)], [(.int .i64)], fun (p : Int × (List (Int × (List (Int × List Int × Bool)) × (List (List Int × Int × List Bool × Bool × Int × Bool × Int × (List (Int × Bool)))) × (List (Int × (List (Int × Int × Bool × List Int)))) × List Int)) × (List (Int × Int × Bool × Int × Int × Int × Bool × List Int)) × Int) => f_laws_szWorld p.1 p.2.1 p.2.2.1 p.2.2.2⟩
noncomputable abbrev K4 : Cons := [(9, C9), (10, C10)]
noncomputable abbrev L4 : List (Nat × Loops) := []
abbrev Q4 : List (Nat × List (Int × Nat) × Nat) := []
noncomputable abbrev X4 : Nat → Ctx := ctxOf tb K4 L4 Q4
theorem E4 : ∀ x, funRun fs X4 6 4 C4 x = C4.fn x := fun x => by kernel_rfl
theorem B4 : ConB Tryz.prog 4 C4 := ConB.make FS MIX TY (cons := K4) (L := L4) (ptrs := Q4) ⟨S9, S10, trivial⟩ trivial trivial rfl rfl E4
theorem S4 : ConS Tryz.prog 4 C4 := B4.call rfl
/-! laws.toIntS: function 82 -/
noncomputable def f_laws_toIntS.l0 : Nat → (List Int) → Int → (List Int) → Option (List Int)
  | 0, _, _, _ => none
  | n + 1, p62, p63, p64 =>
    bif (decide (p63 < (p62.length : Int))) then
      bif ((decide ((0 : Int) ≤ p63)) && (decide (p63 < (p62.length : Int)))) then
      bif ((decide ((0 : Int) ≤ p63)) && (decide (p63 < (p64.length : Int)))) then
      (some ((p64.set p63.toNat (p62.getD p63.toNat 0)) : List Int)).bind fun z65 =>
      f_laws_toIntS.l0 n p62 (IntKind.wrap .i64 (p63 + (1 : Int))) z65
      else none
      else none
    else
      some p64
noncomputable def f_laws_toIntS (x0 : List Int) : Option (List Int) :=
  bif (decide ((0 : Int) ≤ (x0.length : Int)) && Nat.ble (x0.length : Int).toNat 17592186044416) then
  (f_laws_toIntS.l0 N x0 0 (List.replicate (x0.length : Int).toNat 0)).bind fun r66 =>
  some r66
  else none
noncomputable def C82 : Con := ⟨[(.B, false, [(.sl R0)])], [(false, [(.sl R0)])], [(.sl R0)], [(.sl R0)], fun (p : List Int) => f_laws_toIntS p⟩
noncomputable def f_laws_toIntS.l0.c : LoopCon := ⟨1000, 6, [0, 2, 3, 4], ⟨[(0, .bor none R0 []), (2, .nil (some R0)), (3, .ref 1000 [] none), (4, .int .i64 0)], [(1000, .row R0 [])], 1001⟩, [(.sl R0), (.int .i64), (.sl R0)], [⟨.exit 0, [2, 3], ⟨[(2, .nil (some R0)), (3, .ref 1000 [] none)], [(1000, .row R0 [])], 1001⟩, [(.sl R0)]⟩], fun (p : List Int × Int × List Int) => f_laws_toIntS.l0 N p.1 p.2.1 p.2.2⟩
noncomputable abbrev K82 : Cons := []
noncomputable abbrev L82 : List (Nat × Loops) := [(82, [(3, f_laws_toIntS.l0.c)])]
abbrev Q82 : List (Nat × List (Int × Nat) × Nat) := []
noncomputable abbrev X82 : Nat → Ctx := ctxOf tb K82 L82 Q82
theorem f_laws_toIntS.l0.ok : ∀ n p, (fun (p : List Int × Int × List Int) => f_laws_toIntS.l0 n p.1 p.2.1 p.2.2) p = iterD (roundOf fs X82 6 82 3 false f_laws_toIntS.l0.c) n p :=
  iter_of (l := fun n => fun (p : List Int × Int × List Int) => f_laws_toIntS.l0 n p.1 p.2.1 p.2.2) (fun _ => rfl) (fun n p => by kernel_rfl)
theorem E82 : ∀ x, funRun fs X82 6 82 C82 x = C82.fn x := fun x => by kernel_rfl
theorem B82 : ConB Tryz.prog 82 C82 := ConB.make FS MIX TY (cons := K82) (L := L82) (ptrs := Q82) trivial trivial ⟨⟨⟨N, fun p => f_laws_toIntS.l0.ok N p⟩, trivial⟩, trivial⟩ rfl rfl E82
theorem S82 : ConS Tryz.prog 82 C82 := B82.call rfl
/-! laws.toFrame: function 78 -/
noncomputable def f_laws_toFrame (x0 : Int) (x1 : List Int) (x2 : Bool) : Option (Int × List Int × Bool) :=
  (f_laws_toIntS x1).bind fun y67 =>
  some (x0, y67, x2)
noncomputable def C78 : Con := ⟨[(.B, true, [(.int .i64), (.sl R0), .bool])], [(true, [(.int .i64), (.sl R0), .bool])], [(.int .i64), (.sl R0), .bool], [(.int .i64), (.sl R0), .bool], fun (p : Int × List Int × Bool) => f_laws_toFrame p.1 p.2.1 p.2.2⟩
noncomputable abbrev K78 : Cons := [(82, C82)]
noncomputable abbrev L78 : List (Nat × Loops) := []
abbrev Q78 : List (Nat × List (Int × Nat) × Nat) := []
noncomputable abbrev X78 : Nat → Ctx := ctxOf tb K78 L78 Q78
theorem E78 : ∀ x, funRun fs X78 6 78 C78 x = C78.fn x := fun x => by kernel_rfl
theorem B78 : ConB Tryz.prog 78 C78 := ConB.make FS MIX TY (cons := K78) (L := L78) (ptrs := Q78) ⟨S82, trivial⟩ trivial trivial rfl rfl E78
theorem S78 : ConS Tryz.prog 78 C78 := B78.call rfl
/-! laws.toFrameS: function 54 -/
noncomputable def f_laws_toFrameS.l0 : Nat → (List (Int × List Int × Bool)) → Int → (List (Int × List Int × Bool)) → Option ((List (Int × List Int × Bool)))
  | 0, _, _, _ => none
  | n + 1, p68, p69, p70 =>
    bif (decide (p69 < (p68.length : Int))) then
      bif ((decide ((0 : Int) ≤ p69)) && (decide (p69 < (p68.length : Int)))) then
      (f_laws_toFrame ((p68.getD p69.toNat (0, [], false)).1) ((p68.getD p69.toNat (0, [], false)).2.1) ((p68.getD p69.toNat (0, [], false)).2.2)).bind fun y71 =>
      bif ((decide ((0 : Int) ≤ p69)) && (decide (p69 < (p70.length : Int)))) then
      (some ((p70.set p69.toNat (y71.1, y71.2.1, y71.2.2)) : List (Int × List Int × Bool))).bind fun z72 =>
      f_laws_toFrameS.l0 n p68 (IntKind.wrap .i64 (p69 + (1 : Int))) z72
      else none
      else none
    else
      some p70
noncomputable def f_laws_toFrameS (x0 : List (Int × List Int × Bool)) : Option ((List (Int × List Int × Bool))) :=
  bif (decide ((0 : Int) ≤ (x0.length : Int)) && Nat.ble (x0.length : Int).toNat 3518437208883) then
  (f_laws_toFrameS.l0 N x0 0 (List.replicate (x0.length : Int).toNat (0, [], false))).bind fun r73 =>
  some r73
  else none
noncomputable def C54 : Con := ⟨[(.B, false, [(.sl R1)])], [(false, [(.sl R1)])], [(.sl R1)], [(.sl R1)], fun (p : (List (Int × List Int × Bool))) => f_laws_toFrameS p⟩
noncomputable def f_laws_toFrameS.l0.c : LoopCon := ⟨1000, 6, [0, 2, 3, 4], ⟨[(0, .bor none R1 []), (2, .nil (some R1)), (3, .ref 1000 [] none), (4, .int .i64 0)], [(1000, .row R1 [])], 1001⟩, [(.sl R1), (.int .i64), (.sl R1)], [⟨.exit 0, [2, 3], ⟨[(2, .nil (some R1)), (3, .ref 1000 [] none)], [(1000, .row R1 [])], 1001⟩, [(.sl R1)]⟩], fun (p : (List (Int × List Int × Bool)) × Int × (List (Int × List Int × Bool))) => f_laws_toFrameS.l0 N p.1 p.2.1 p.2.2⟩
noncomputable abbrev K54 : Cons := [(78, C78)]
noncomputable abbrev L54 : List (Nat × Loops) := [(54, [(3, f_laws_toFrameS.l0.c)])]
abbrev Q54 : List (Nat × List (Int × Nat) × Nat) := []
noncomputable abbrev X54 : Nat → Ctx := ctxOf tb K54 L54 Q54
theorem f_laws_toFrameS.l0.ok : ∀ n p, (fun (p : (List (Int × List Int × Bool)) × Int × (List (Int × List Int × Bool))) => f_laws_toFrameS.l0 n p.1 p.2.1 p.2.2) p = iterD (roundOf fs X54 6 54 3 false f_laws_toFrameS.l0.c) n p :=
  iter_of (l := fun n => fun (p : (List (Int × List Int × Bool)) × Int × (List (Int × List Int × Bool))) => f_laws_toFrameS.l0 n p.1 p.2.1 p.2.2) (fun _ => rfl) (fun n p => by kernel_rfl)
theorem E54 : ∀ x, funRun fs X54 6 54 C54 x = C54.fn x := fun x => by kernel_rfl
theorem B54 : ConB Tryz.prog 54 C54 := ConB.make FS MIX TY (cons := K54) (L := L54) (ptrs := Q54) ⟨S78, trivial⟩ trivial ⟨⟨⟨N, fun p => f_laws_toFrameS.l0.ok N p⟩, trivial⟩, trivial⟩ rfl rfl E54
theorem S54 : ConS Tryz.prog 54 C54 := B54.call rfl
/-! laws.toBoolS: function 96 -/
noncomputable def f_laws_toBoolS.l0 : Nat → (List Bool) → Int → (List Bool) → Option (List Bool)
  | 0, _, _, _ => none
  | n + 1, p74, p75, p76 =>
    bif (decide (p75 < (p74.length : Int))) then
      bif ((decide ((0 : Int) ≤ p75)) && (decide (p75 < (p74.length : Int)))) then
      bif ((decide ((0 : Int) ≤ p75)) && (decide (p75 < (p76.length : Int)))) then
      (some ((p76.set p75.toNat (p74.getD p75.toNat false)) : List Bool)).bind fun z77 =>
      f_laws_toBoolS.l0 n p74 (IntKind.wrap .i64 (p75 + (1 : Int))) z77
      else none
      else none
    else
      some p76
noncomputable def f_laws_toBoolS (x0 : List Bool) : Option (List Bool) :=
  bif (decide ((0 : Int) ≤ (x0.length : Int)) && Nat.ble (x0.length : Int).toNat 140737488355328) then
  (f_laws_toBoolS.l0 N x0 0 (List.replicate (x0.length : Int).toNat false)).bind fun r78 =>
  some r78
  else none
noncomputable def C96 : Con := ⟨[(.B, false, [(.sl R2)])], [(false, [(.sl R2)])], [(.sl R2)], [(.sl R2)], fun (p : List Bool) => f_laws_toBoolS p⟩
noncomputable def f_laws_toBoolS.l0.c : LoopCon := ⟨1000, 6, [0, 2, 3, 4], ⟨[(0, .bor none R2 []), (2, .nil (some R2)), (3, .ref 1000 [] none), (4, .int .i64 0)], [(1000, .row R2 [])], 1001⟩, [(.sl R2), (.int .i64), (.sl R2)], [⟨.exit 0, [2, 3], ⟨[(2, .nil (some R2)), (3, .ref 1000 [] none)], [(1000, .row R2 [])], 1001⟩, [(.sl R2)]⟩], fun (p : List Bool × Int × List Bool) => f_laws_toBoolS.l0 N p.1 p.2.1 p.2.2⟩
noncomputable abbrev K96 : Cons := []
noncomputable abbrev L96 : List (Nat × Loops) := [(96, [(3, f_laws_toBoolS.l0.c)])]
abbrev Q96 : List (Nat × List (Int × Nat) × Nat) := []
noncomputable abbrev X96 : Nat → Ctx := ctxOf tb K96 L96 Q96
theorem f_laws_toBoolS.l0.ok : ∀ n p, (fun (p : List Bool × Int × List Bool) => f_laws_toBoolS.l0 n p.1 p.2.1 p.2.2) p = iterD (roundOf fs X96 6 96 3 false f_laws_toBoolS.l0.c) n p :=
  iter_of (l := fun n => fun (p : List Bool × Int × List Bool) => f_laws_toBoolS.l0 n p.1 p.2.1 p.2.2) (fun _ => rfl) (fun n p => by kernel_rfl)
theorem E96 : ∀ x, funRun fs X96 6 96 C96 x = C96.fn x := fun x => by kernel_rfl
theorem B96 : ConB Tryz.prog 96 C96 := ConB.make FS MIX TY (cons := K96) (L := L96) (ptrs := Q96) trivial trivial ⟨⟨⟨N, fun p => f_laws_toBoolS.l0.ok N p⟩, trivial⟩, trivial⟩ rfl rfl E96
theorem S96 : ConS Tryz.prog 96 C96 := B96.call rfl
/-! laws.toWait: function 97 -/
noncomputable def f_laws_toWait (x0 : Int) (x1 : Bool) : Option (Int × Bool) :=
  some (x0, x1)
noncomputable def C97 : Con := ⟨[(.B, true, [(.int .i64), .bool])], [(true, [(.int .i64), .bool])], [(.int .i64), .bool], [(.int .i64), .bool], fun (p : Int × Bool) => f_laws_toWait p.1 p.2⟩
noncomputable abbrev K97 : Cons := []
noncomputable abbrev L97 : List (Nat × Loops) := []
abbrev Q97 : List (Nat × List (Int × Nat) × Nat) := []
noncomputable abbrev X97 : Nat → Ctx := ctxOf tb K97 L97 Q97
theorem E97 : ∀ x, funRun fs X97 6 97 C97 x = C97.fn x := fun x => by kernel_rfl
theorem B97 : ConB Tryz.prog 97 C97 := ConB.make FS MIX TY (cons := K97) (L := L97) (ptrs := Q97) trivial trivial trivial rfl rfl E97
theorem S97 : ConS Tryz.prog 97 C97 := B97.call rfl
/-! laws.toWaitS: function 98 -/
noncomputable def f_laws_toWaitS.l0 : Nat → (List (Int × Bool)) → Int → (List (Int × Bool)) → Option ((List (Int × Bool)))
  | 0, _, _, _ => none
  | n + 1, p79, p80, p81 =>
    bif (decide (p80 < (p79.length : Int))) then
      bif ((decide ((0 : Int) ≤ p80)) && (decide (p80 < (p79.length : Int)))) then
      (f_laws_toWait ((p79.getD p80.toNat (0, false)).1) ((p79.getD p80.toNat (0, false)).2)).bind fun y82 =>
      bif ((decide ((0 : Int) ≤ p80)) && (decide (p80 < (p81.length : Int)))) then
      (some ((p81.set p80.toNat (y82.1, y82.2)) : List (Int × Bool))).bind fun z83 =>
      f_laws_toWaitS.l0 n p79 (IntKind.wrap .i64 (p80 + (1 : Int))) z83
      else none
      else none
    else
      some p81
noncomputable def f_laws_toWaitS (x0 : List (Int × Bool)) : Option ((List (Int × Bool))) :=
  bif (decide ((0 : Int) ≤ (x0.length : Int)) && Nat.ble (x0.length : Int).toNat 8796093022208) then
  (f_laws_toWaitS.l0 N x0 0 (List.replicate (x0.length : Int).toNat (0, false))).bind fun r84 =>
  some r84
  else none
noncomputable def C98 : Con := ⟨[(.B, false, [(.sl R3)])], [(false, [(.sl R3)])], [(.sl R3)], [(.sl R3)], fun (p : (List (Int × Bool))) => f_laws_toWaitS p⟩
noncomputable def f_laws_toWaitS.l0.c : LoopCon := ⟨1000, 6, [0, 2, 3, 4], ⟨[(0, .bor none R3 []), (2, .nil (some R3)), (3, .ref 1000 [] none), (4, .int .i64 0)], [(1000, .row R3 [])], 1001⟩, [(.sl R3), (.int .i64), (.sl R3)], [⟨.exit 0, [2, 3], ⟨[(2, .nil (some R3)), (3, .ref 1000 [] none)], [(1000, .row R3 [])], 1001⟩, [(.sl R3)]⟩], fun (p : (List (Int × Bool)) × Int × (List (Int × Bool))) => f_laws_toWaitS.l0 N p.1 p.2.1 p.2.2⟩
noncomputable abbrev K98 : Cons := [(97, C97)]
noncomputable abbrev L98 : List (Nat × Loops) := [(98, [(3, f_laws_toWaitS.l0.c)])]
abbrev Q98 : List (Nat × List (Int × Nat) × Nat) := []
noncomputable abbrev X98 : Nat → Ctx := ctxOf tb K98 L98 Q98
theorem f_laws_toWaitS.l0.ok : ∀ n p, (fun (p : (List (Int × Bool)) × Int × (List (Int × Bool))) => f_laws_toWaitS.l0 n p.1 p.2.1 p.2.2) p = iterD (roundOf fs X98 6 98 3 false f_laws_toWaitS.l0.c) n p :=
  iter_of (l := fun n => fun (p : (List (Int × Bool)) × Int × (List (Int × Bool))) => f_laws_toWaitS.l0 n p.1 p.2.1 p.2.2) (fun _ => rfl) (fun n p => by kernel_rfl)
theorem E98 : ∀ x, funRun fs X98 6 98 C98 x = C98.fn x := fun x => by kernel_rfl
theorem B98 : ConB Tryz.prog 98 C98 := ConB.make FS MIX TY (cons := K98) (L := L98) (ptrs := Q98) ⟨S97, trivial⟩ trivial ⟨⟨⟨N, fun p => f_laws_toWaitS.l0.ok N p⟩, trivial⟩, trivial⟩ rfl rfl E98
theorem S98 : ConS Tryz.prog 98 C98 := B98.call rfl
/-! laws.toHome: function 79 -/
noncomputable def f_laws_toHome (x0 : List Int) (x1 : Int) (x2 : List Bool) (x3 : Bool) (x4 : Int) (x5 : Bool) (x6 : Int) (x7 : List (Int × Bool)) : Option (List Int × Int × List Bool × Bool × Int × Bool × Int × (List (Int × Bool))) :=
  (f_laws_toIntS x0).bind fun y85 =>
  (f_laws_toBoolS x2).bind fun y86 =>
  (f_laws_toWait x4 x5).bind fun y87 =>
  (f_laws_toWaitS x7).bind fun y88 =>
  some (y85, x1, y86, x3, y87.1, y87.2, x6, y88)
noncomputable def C79 : Con := ⟨[(.B, true, [(.sl R0), (.int .i64), (.sl R2), .bool, (.int .i64), .bool, (.int .i64), (.sl R3)])], [(true, [(.sl R0), (.int .i64), (.sl R2), .bool, (.int .i64), .bool, (.int .i64), (.sl R3)])], [(.sl R0), (.int .i64), (.sl R2), .bool, (.int .i64), .bool, (.int .i64), (.sl R3)], [(.sl R0), (.int .i64), (.sl R2), .bool, (.int .i64), .bool, (.int .i64), (.sl R3)], fun (p : List Int × Int × List Bool × Bool × Int × Bool × Int × (List (Int × Bool))) => f_laws_toHome p.1 p.2.1 p.2.2.1 p.2.2.2.1 p.2.2.2.2.1 p.2.2.2.2.2.1 p.2.2.2.2.2.2.1 p.2.2.2.2.2.2.2⟩
noncomputable abbrev K79 : Cons := [(82, C82), (96, C96), (97, C97), (98, C98)]
noncomputable abbrev L79 : List (Nat × Loops) := []
abbrev Q79 : List (Nat × List (Int × Nat) × Nat) := []
noncomputable abbrev X79 : Nat → Ctx := ctxOf tb K79 L79 Q79
theorem E79 : ∀ x, funRun fs X79 6 79 C79 x = C79.fn x := fun x => by kernel_rfl
theorem B79 : ConB Tryz.prog 79 C79 := ConB.make FS MIX TY (cons := K79) (L := L79) (ptrs := Q79) ⟨S82, S96, S97, S98, trivial⟩ trivial trivial rfl rfl E79
theorem S79 : ConS Tryz.prog 79 C79 := B79.call rfl
/-! laws.toHomeS: function 55 -/
noncomputable def f_laws_toHomeS.l0 : Nat → (List (List Int × Int × List Bool × Bool × Int × Bool × Int × (List (Int × Bool)))) → Int → (List (List Int × Int × List Bool × Bool × Int × Bool × Int × (List (Int × Bool)))) → Option ((List (List Int × Int × List Bool × Bool × Int × Bool × Int × (List (Int × Bool)))))
  | 0, _, _, _ => none
  | n + 1, p89, p90, p91 =>
    bif (decide (p90 < (p89.length : Int))) then
      bif ((decide ((0 : Int) ≤ p90)) && (decide (p90 < (p89.length : Int)))) then
      (f_laws_toHome ((p89.getD p90.toNat ([], 0, [], false, 0, false, 0, [])).1) ((p89.getD p90.toNat ([], 0, [], false, 0, false, 0, [])).2.1) ((p89.getD p90.toNat ([], 0, [], false, 0, false, 0, [])).2.2.1) ((p89.getD p90.toNat ([], 0, [], false, 0, false, 0, [])).2.2.2.1) ((p89.getD p90.toNat ([], 0, [], false, 0, false, 0, [])).2.2.2.2.1) ((p89.getD p90.toNat ([], 0, [], false, 0, false, 0, [])).2.2.2.2.2.1) ((p89.getD p90.toNat ([], 0, [], false, 0, false, 0, [])).2.2.2.2.2.2.1) ((p89.getD p90.toNat ([], 0, [], false, 0, false, 0, [])).2.2.2.2.2.2.2)).bind fun y92 =>
      bif ((decide ((0 : Int) ≤ p90)) && (decide (p90 < (p91.length : Int)))) then
      (some ((p91.set p90.toNat (y92.1, y92.2.1, y92.2.2.1, y92.2.2.2.1, y92.2.2.2.2.1, y92.2.2.2.2.2.1, y92.2.2.2.2.2.2.1, y92.2.2.2.2.2.2.2)) : List (List Int × Int × List Bool × Bool × Int × Bool × Int × (List (Int × Bool))))).bind fun z93 =>
      f_laws_toHomeS.l0 n p89 (IntKind.wrap .i64 (p90 + (1 : Int))) z93
      else none
      else none
    else
      some p91
noncomputable def f_laws_toHomeS (x0 : List (List Int × Int × List Bool × Bool × Int × Bool × Int × (List (Int × Bool)))) : Option ((List (List Int × Int × List Bool × Bool × Int × Bool × Int × (List (Int × Bool))))) :=
  bif (decide ((0 : Int) ≤ (x0.length : Int)) && Nat.ble (x0.length : Int).toNat 1256584717458) then
  (f_laws_toHomeS.l0 N x0 0 (List.replicate (x0.length : Int).toNat ([], 0, [], false, 0, false, 0, []))).bind fun r94 =>
  some r94
  else none
noncomputable def C55 : Con := ⟨[(.B, false, [(.sl R4)])], [(false, [(.sl R4)])], [(.sl R4)], [(.sl R4)], fun (p : (List (List Int × Int × List Bool × Bool × Int × Bool × Int × (List (Int × Bool))))) => f_laws_toHomeS p⟩
noncomputable def f_laws_toHomeS.l0.c : LoopCon := ⟨1000, 6, [0, 2, 3, 4], ⟨[(0, .bor none R4 []), (2, .nil (some R4)), (3, .ref 1000 [] none), (4, .int .i64 0)], [(1000, .row R4 [])], 1001⟩, [(.sl R4), (.int .i64), (.sl R4)], [⟨.exit 0, [2, 3], ⟨[(2, .nil (some R4)), (3, .ref 1000 [] none)], [(1000, .row R4 [])], 1001⟩, [(.sl R4)]⟩], fun (p : (List (List Int × Int × List Bool × Bool × Int × Bool × Int × (List (Int × Bool)))) × Int × (List (List Int × Int × List Bool × Bool × Int × Bool × Int × (List (Int × Bool))))) => f_laws_toHomeS.l0 N p.1 p.2.1 p.2.2⟩
noncomputable abbrev K55 : Cons := [(79, C79)]
noncomputable abbrev L55 : List (Nat × Loops) := [(55, [(3, f_laws_toHomeS.l0.c)])]
abbrev Q55 : List (Nat × List (Int × Nat) × Nat) := []
noncomputable abbrev X55 : Nat → Ctx := ctxOf tb K55 L55 Q55
theorem f_laws_toHomeS.l0.ok : ∀ n p, (fun (p : (List (List Int × Int × List Bool × Bool × Int × Bool × Int × (List (Int × Bool)))) × Int × (List (List Int × Int × List Bool × Bool × Int × Bool × Int × (List (Int × Bool))))) => f_laws_toHomeS.l0 n p.1 p.2.1 p.2.2) p = iterD (roundOf fs X55 6 55 3 false f_laws_toHomeS.l0.c) n p :=
  iter_of (l := fun n => fun (p : (List (List Int × Int × List Bool × Bool × Int × Bool × Int × (List (Int × Bool)))) × Int × (List (List Int × Int × List Bool × Bool × Int × Bool × Int × (List (Int × Bool))))) => f_laws_toHomeS.l0 n p.1 p.2.1 p.2.2) (fun _ => rfl) (fun n p => by kernel_rfl)
theorem E55 : ∀ x, funRun fs X55 6 55 C55 x = C55.fn x := fun x => by kernel_rfl
theorem B55 : ConB Tryz.prog 55 C55 := ConB.make FS MIX TY (cons := K55) (L := L55) (ptrs := Q55) ⟨S79, trivial⟩ trivial ⟨⟨⟨N, fun p => f_laws_toHomeS.l0.ok N p⟩, trivial⟩, trivial⟩ rfl rfl E55
theorem S55 : ConS Tryz.prog 55 C55 := B55.call rfl
/-! laws.toMsg: function 58 -/
noncomputable def f_laws_toMsg (x0 : Int) (x1 : Int) (x2 : Bool) (x3 : List Int) : Option (Int × Int × Bool × List Int) :=
  (f_laws_toIntS x3).bind fun y95 =>
  some (x0, x1, x2, y95)
noncomputable def C58 : Con := ⟨[(.B, true, [(.int .i64), (.int .i64), .bool, (.sl R0)])], [(true, [(.int .i64), (.int .i64), .bool, (.sl R0)])], [(.int .i64), (.int .i64), .bool, (.sl R0)], [(.int .i64), (.int .i64), .bool, (.sl R0)], fun (p : Int × Int × Bool × List Int) => f_laws_toMsg p.1 p.2.1 p.2.2.1 p.2.2.2⟩
noncomputable abbrev K58 : Cons := [(82, C82)]
noncomputable abbrev L58 : List (Nat × Loops) := []
abbrev Q58 : List (Nat × List (Int × Nat) × Nat) := []
noncomputable abbrev X58 : Nat → Ctx := ctxOf tb K58 L58 Q58
theorem E58 : ∀ x, funRun fs X58 6 58 C58 x = C58.fn x := fun x => by kernel_rfl
theorem B58 : ConB Tryz.prog 58 C58 := ConB.make FS MIX TY (cons := K58) (L := L58) (ptrs := Q58) ⟨S82, trivial⟩ trivial trivial rfl rfl E58
theorem S58 : ConS Tryz.prog 58 C58 := B58.call rfl
/-! laws.toMsgS: function 99 -/
noncomputable def f_laws_toMsgS.l0 : Nat → (List (Int × Int × Bool × List Int)) → Int → (List (Int × Int × Bool × List Int)) → Option ((List (Int × Int × Bool × List Int)))
  | 0, _, _, _ => none
  | n + 1, p96, p97, p98 =>
    bif (decide (p97 < (p96.length : Int))) then
      bif ((decide ((0 : Int) ≤ p97)) && (decide (p97 < (p96.length : Int)))) then
      (f_laws_toMsg ((p96.getD p97.toNat (0, 0, false, [])).1) ((p96.getD p97.toNat (0, 0, false, [])).2.1) ((p96.getD p97.toNat (0, 0, false, [])).2.2.1) ((p96.getD p97.toNat (0, 0, false, [])).2.2.2)).bind fun y99 =>
      bif ((decide ((0 : Int) ≤ p97)) && (decide (p97 < (p98.length : Int)))) then
      (some ((p98.set p97.toNat (y99.1, y99.2.1, y99.2.2.1, y99.2.2.2)) : List (Int × Int × Bool × List Int))).bind fun z100 =>
      f_laws_toMsgS.l0 n p96 (IntKind.wrap .i64 (p97 + (1 : Int))) z100
      else none
      else none
    else
      some p98
noncomputable def f_laws_toMsgS (x0 : List (Int × Int × Bool × List Int)) : Option ((List (Int × Int × Bool × List Int))) :=
  bif (decide ((0 : Int) ≤ (x0.length : Int)) && Nat.ble (x0.length : Int).toNat 2932031007402) then
  (f_laws_toMsgS.l0 N x0 0 (List.replicate (x0.length : Int).toNat (0, 0, false, []))).bind fun r101 =>
  some r101
  else none
noncomputable def C99 : Con := ⟨[(.B, false, [(.sl R5)])], [(false, [(.sl R5)])], [(.sl R5)], [(.sl R5)], fun (p : (List (Int × Int × Bool × List Int))) => f_laws_toMsgS p⟩
noncomputable def f_laws_toMsgS.l0.c : LoopCon := ⟨1000, 6, [0, 2, 3, 4], ⟨[(0, .bor none R5 []), (2, .nil (some R5)), (3, .ref 1000 [] none), (4, .int .i64 0)], [(1000, .row R5 [])], 1001⟩, [(.sl R5), (.int .i64), (.sl R5)], [⟨.exit 0, [2, 3], ⟨[(2, .nil (some R5)), (3, .ref 1000 [] none)], [(1000, .row R5 [])], 1001⟩, [(.sl R5)]⟩], fun (p : (List (Int × Int × Bool × List Int)) × Int × (List (Int × Int × Bool × List Int))) => f_laws_toMsgS.l0 N p.1 p.2.1 p.2.2⟩
noncomputable abbrev K99 : Cons := [(58, C58)]
noncomputable abbrev L99 : List (Nat × Loops) := [(99, [(3, f_laws_toMsgS.l0.c)])]
abbrev Q99 : List (Nat × List (Int × Nat) × Nat) := []
noncomputable abbrev X99 : Nat → Ctx := ctxOf tb K99 L99 Q99
theorem f_laws_toMsgS.l0.ok : ∀ n p, (fun (p : (List (Int × Int × Bool × List Int)) × Int × (List (Int × Int × Bool × List Int))) => f_laws_toMsgS.l0 n p.1 p.2.1 p.2.2) p = iterD (roundOf fs X99 6 99 3 false f_laws_toMsgS.l0.c) n p :=
  iter_of (l := fun n => fun (p : (List (Int × Int × Bool × List Int)) × Int × (List (Int × Int × Bool × List Int))) => f_laws_toMsgS.l0 n p.1 p.2.1 p.2.2) (fun _ => rfl) (fun n p => by kernel_rfl)
theorem E99 : ∀ x, funRun fs X99 6 99 C99 x = C99.fn x := fun x => by kernel_rfl
theorem B99 : ConB Tryz.prog 99 C99 := ConB.make FS MIX TY (cons := K99) (L := L99) (ptrs := Q99) ⟨S58, trivial⟩ trivial ⟨⟨⟨N, fun p => f_laws_toMsgS.l0.ok N p⟩, trivial⟩, trivial⟩ rfl rfl E99
theorem S99 : ConS Tryz.prog 99 C99 := B99.call rfl
/-! laws.toSender: function 80 -/
noncomputable def f_laws_toSender (x0 : Int) (x1 : List (Int × Int × Bool × List Int)) : Option (Int × (List (Int × Int × Bool × List Int))) :=
  (f_laws_toMsgS x1).bind fun y102 =>
  some (x0, y102)
noncomputable def C80 : Con := ⟨[(.B, true, [(.int .i64), (.sl R5)])], [(true, [(.int .i64), (.sl R5)])], [(.int .i64), (.sl R5)], [(.int .i64), (.sl R5)], fun (p : Int × (List (Int × Int × Bool × List Int))) => f_laws_toSender p.1 p.2⟩
noncomputable abbrev K80 : Cons := [(99, C99)]
noncomputable abbrev L80 : List (Nat × Loops) := []
abbrev Q80 : List (Nat × List (Int × Nat) × Nat) := []
noncomputable abbrev X80 : Nat → Ctx := ctxOf tb K80 L80 Q80
theorem E80 : ∀ x, funRun fs X80 6 80 C80 x = C80.fn x := fun x => by kernel_rfl
theorem B80 : ConB Tryz.prog 80 C80 := ConB.make FS MIX TY (cons := K80) (L := L80) (ptrs := Q80) ⟨S99, trivial⟩ trivial trivial rfl rfl E80
theorem S80 : ConS Tryz.prog 80 C80 := B80.call rfl
/-! laws.toSenderS: function 56 -/
noncomputable def f_laws_toSenderS.l0 : Nat → (List (Int × (List (Int × Int × Bool × List Int)))) → Int → (List (Int × (List (Int × Int × Bool × List Int)))) → Option ((List (Int × (List (Int × Int × Bool × List Int)))))
  | 0, _, _, _ => none
  | n + 1, p103, p104, p105 =>
    bif (decide (p104 < (p103.length : Int))) then
      bif ((decide ((0 : Int) ≤ p104)) && (decide (p104 < (p103.length : Int)))) then
      (f_laws_toSender ((p103.getD p104.toNat (0, [])).1) ((p103.getD p104.toNat (0, [])).2)).bind fun y106 =>
      bif ((decide ((0 : Int) ≤ p104)) && (decide (p104 < (p105.length : Int)))) then
      (some ((p105.set p104.toNat (y106.1, y106.2)) : List (Int × (List (Int × Int × Bool × List Int))))).bind fun z107 =>
      f_laws_toSenderS.l0 n p103 (IntKind.wrap .i64 (p104 + (1 : Int))) z107
      else none
      else none
    else
      some p105
noncomputable def f_laws_toSenderS (x0 : List (Int × (List (Int × Int × Bool × List Int)))) : Option ((List (Int × (List (Int × Int × Bool × List Int))))) :=
  bif (decide ((0 : Int) ≤ (x0.length : Int)) && Nat.ble (x0.length : Int).toNat 4398046511104) then
  (f_laws_toSenderS.l0 N x0 0 (List.replicate (x0.length : Int).toNat (0, []))).bind fun r108 =>
  some r108
  else none
noncomputable def C56 : Con := ⟨[(.B, false, [(.sl R6)])], [(false, [(.sl R6)])], [(.sl R6)], [(.sl R6)], fun (p : (List (Int × (List (Int × Int × Bool × List Int))))) => f_laws_toSenderS p⟩
noncomputable def f_laws_toSenderS.l0.c : LoopCon := ⟨1000, 6, [0, 2, 3, 4], ⟨[(0, .bor none R6 []), (2, .nil (some R6)), (3, .ref 1000 [] none), (4, .int .i64 0)], [(1000, .row R6 [])], 1001⟩, [(.sl R6), (.int .i64), (.sl R6)], [⟨.exit 0, [2, 3], ⟨[(2, .nil (some R6)), (3, .ref 1000 [] none)], [(1000, .row R6 [])], 1001⟩, [(.sl R6)]⟩], fun (p : (List (Int × (List (Int × Int × Bool × List Int)))) × Int × (List (Int × (List (Int × Int × Bool × List Int))))) => f_laws_toSenderS.l0 N p.1 p.2.1 p.2.2⟩
noncomputable abbrev K56 : Cons := [(80, C80)]
noncomputable abbrev L56 : List (Nat × Loops) := [(56, [(3, f_laws_toSenderS.l0.c)])]
abbrev Q56 : List (Nat × List (Int × Nat) × Nat) := []
noncomputable abbrev X56 : Nat → Ctx := ctxOf tb K56 L56 Q56
theorem f_laws_toSenderS.l0.ok : ∀ n p, (fun (p : (List (Int × (List (Int × Int × Bool × List Int)))) × Int × (List (Int × (List (Int × Int × Bool × List Int))))) => f_laws_toSenderS.l0 n p.1 p.2.1 p.2.2) p = iterD (roundOf fs X56 6 56 3 false f_laws_toSenderS.l0.c) n p :=
  iter_of (l := fun n => fun (p : (List (Int × (List (Int × Int × Bool × List Int)))) × Int × (List (Int × (List (Int × Int × Bool × List Int))))) => f_laws_toSenderS.l0 n p.1 p.2.1 p.2.2) (fun _ => rfl) (fun n p => by kernel_rfl)
theorem E56 : ∀ x, funRun fs X56 6 56 C56 x = C56.fn x := fun x => by kernel_rfl
theorem B56 : ConB Tryz.prog 56 C56 := ConB.make FS MIX TY (cons := K56) (L := L56) (ptrs := Q56) ⟨S80, trivial⟩ trivial ⟨⟨⟨N, fun p => f_laws_toSenderS.l0.ok N p⟩, trivial⟩, trivial⟩ rfl rfl E56
theorem S56 : ConS Tryz.prog 56 C56 := B56.call rfl
/-! laws.toReceiver: function 81 -/
noncomputable def f_laws_toReceiver (x0 : Int) : Option (Int) :=
  some x0
noncomputable def C81 : Con := ⟨[(.B, true, [(.int .i64)])], [(true, [(.int .i64)])], [(.int .i64)], [(.int .i64)], fun (p : Int) => f_laws_toReceiver p⟩
noncomputable abbrev K81 : Cons := []
noncomputable abbrev L81 : List (Nat × Loops) := []
abbrev Q81 : List (Nat × List (Int × Nat) × Nat) := []
noncomputable abbrev X81 : Nat → Ctx := ctxOf tb K81 L81 Q81
theorem E81 : ∀ x, funRun fs X81 6 81 C81 x = C81.fn x := fun x => by kernel_rfl
theorem B81 : ConB Tryz.prog 81 C81 := ConB.make FS MIX TY (cons := K81) (L := L81) (ptrs := Q81) trivial trivial trivial rfl rfl E81
theorem S81 : ConS Tryz.prog 81 C81 := B81.call rfl
/-! laws.toReceiverS: function 57 -/
noncomputable def f_laws_toReceiverS.l0 : Nat → (List Int) → Int → (List Int) → Option (List Int)
  | 0, _, _, _ => none
  | n + 1, p109, p110, p111 =>
    bif (decide (p110 < (p109.length : Int))) then
      bif ((decide ((0 : Int) ≤ p110)) && (decide (p110 < (p109.length : Int)))) then
      (f_laws_toReceiver (p109.getD p110.toNat 0)).bind fun y112 =>
      bif ((decide ((0 : Int) ≤ p110)) && (decide (p110 < (p111.length : Int)))) then
      (some ((p111.set p110.toNat y112) : List Int)).bind fun z113 =>
      f_laws_toReceiverS.l0 n p109 (IntKind.wrap .i64 (p110 + (1 : Int))) z113
      else none
      else none
    else
      some p111
noncomputable def f_laws_toReceiverS (x0 : List Int) : Option (List Int) :=
  bif (decide ((0 : Int) ≤ (x0.length : Int)) && Nat.ble (x0.length : Int).toNat 17592186044416) then
  (f_laws_toReceiverS.l0 N x0 0 (List.replicate (x0.length : Int).toNat 0)).bind fun r114 =>
  some r114
  else none
noncomputable def C57 : Con := ⟨[(.B, false, [(.sl R0)])], [(false, [(.sl R0)])], [(.sl R0)], [(.sl R0)], fun (p : List Int) => f_laws_toReceiverS p⟩
noncomputable def f_laws_toReceiverS.l0.c : LoopCon := ⟨1000, 6, [0, 2, 3, 4], ⟨[(0, .bor none R0 []), (2, .nil (some R0)), (3, .ref 1000 [] none), (4, .int .i64 0)], [(1000, .row R0 [])], 1001⟩, [(.sl R0), (.int .i64), (.sl R0)], [⟨.exit 0, [2, 3], ⟨[(2, .nil (some R0)), (3, .ref 1000 [] none)], [(1000, .row R0 [])], 1001⟩, [(.sl R0)]⟩], fun (p : List Int × Int × List Int) => f_laws_toReceiverS.l0 N p.1 p.2.1 p.2.2⟩
noncomputable abbrev K57 : Cons := [(81, C81)]
noncomputable abbrev L57 : List (Nat × Loops) := [(57, [(3, f_laws_toReceiverS.l0.c)])]
abbrev Q57 : List (Nat × List (Int × Nat) × Nat) := []
noncomputable abbrev X57 : Nat → Ctx := ctxOf tb K57 L57 Q57
theorem f_laws_toReceiverS.l0.ok : ∀ n p, (fun (p : List Int × Int × List Int) => f_laws_toReceiverS.l0 n p.1 p.2.1 p.2.2) p = iterD (roundOf fs X57 6 57 3 false f_laws_toReceiverS.l0.c) n p :=
  iter_of (l := fun n => fun (p : List Int × Int × List Int) => f_laws_toReceiverS.l0 n p.1 p.2.1 p.2.2) (fun _ => rfl) (fun n p => by kernel_rfl)
theorem E57 : ∀ x, funRun fs X57 6 57 C57 x = C57.fn x := fun x => by kernel_rfl
theorem B57 : ConB Tryz.prog 57 C57 := ConB.make FS MIX TY (cons := K57) (L := L57) (ptrs := Q57) ⟨S81, trivial⟩ trivial ⟨⟨⟨N, fun p => f_laws_toReceiverS.l0.ok N p⟩, trivial⟩, trivial⟩ rfl rfl E57
theorem S57 : ConS Tryz.prog 57 C57 := B57.call rfl
/-! laws.toNode: function 29 -/
noncomputable def f_laws_toNode (x0 : Int) (x1 : List (Int × List Int × Bool)) (x2 : List (List Int × Int × List Bool × Bool × Int × Bool × Int × (List (Int × Bool)))) (x3 : List (Int × (List (Int × Int × Bool × List Int)))) (x4 : List Int) : Option (Int × (List (Int × List Int × Bool)) × (List (List Int × Int × List Bool × Bool × Int × Bool × Int × (List (Int × Bool)))) × (List (Int × (List (Int × Int × Bool × List Int)))) × List Int) :=
  (f_laws_toFrameS x1).bind fun y115 =>
  (f_laws_toHomeS x2).bind fun y116 =>
  (f_laws_toSenderS x3).bind fun y117 =>
  (f_laws_toReceiverS x4).bind fun y118 =>
  some (x0, y115, y116, y117, y118)
noncomputable def C29 : Con := ⟨[(.B, true, [(.int .i64), (.sl R1), (.sl R4), (.sl R6), (.sl R0)])], [(true, [(.int .i64), (.sl R1), (.sl R4), (.sl R6), (.sl R0)])], [(.int .i64), (.sl R1), (.sl R4), (.sl R6), (.sl R0)], [(.int .i64), (.sl R1), (.sl R4), (.sl R6), (.sl R0)], fun (p : Int × (List (Int × List Int × Bool)) × (List (List Int × Int × List Bool × Bool × Int × Bool × Int × (List (Int × Bool)))) × (List (Int × (List (Int × Int × Bool × List Int)))) × List Int) => f_laws_toNode p.1 p.2.1 p.2.2.1 p.2.2.2.1 p.2.2.2.2⟩
noncomputable abbrev K29 : Cons := [(54, C54), (55, C55), (56, C56), (57, C57)]
noncomputable abbrev L29 : List (Nat × Loops) := []
abbrev Q29 : List (Nat × List (Int × Nat) × Nat) := []
noncomputable abbrev X29 : Nat → Ctx := ctxOf tb K29 L29 Q29
theorem E29 : ∀ x, funRun fs X29 6 29 C29 x = C29.fn x := fun x => by kernel_rfl
theorem B29 : ConB Tryz.prog 29 C29 := ConB.make FS MIX TY (cons := K29) (L := L29) (ptrs := Q29) ⟨S54, S55, S56, S57, trivial⟩ trivial trivial rfl rfl E29
theorem S29 : ConS Tryz.prog 29 C29 := B29.call rfl
/-! laws.toNodeS: function 14 -/
noncomputable def f_laws_toNodeS.l0 : Nat → (List (Int × (List (Int × List Int × Bool)) × (List (List Int × Int × List Bool × Bool × Int × Bool × Int × (List (Int × Bool)))) × (List (Int × (List (Int × Int × Bool × List Int)))) × List Int)) → Int → (List (Int × (List (Int × List Int × Bool)) × (List (List Int × Int × List Bool × Bool × Int × Bool × Int × (List (Int × Bool)))) × (List (Int × (List (Int × Int × Bool × List Int)))) × List Int)) → Option ((List (Int × (List (Int × List Int × Bool)) × (List (List Int × Int × List Bool × Bool × Int × Bool × Int × (List (Int × Bool)))) × (List (Int × (List (Int × Int × Bool × List Int)))) × List Int)))
  | 0, _, _, _ => none
  | n + 1, p119, p120, p121 =>
    bif (decide (p120 < (p119.length : Int))) then
      bif ((decide ((0 : Int) ≤ p120)) && (decide (p120 < (p119.length : Int)))) then
      (f_laws_toNode ((p119.getD p120.toNat (0, [], [], [], [])).1) ((p119.getD p120.toNat (0, [], [], [], [])).2.1) ((p119.getD p120.toNat (0, [], [], [], [])).2.2.1) ((p119.getD p120.toNat (0, [], [], [], [])).2.2.2.1) ((p119.getD p120.toNat (0, [], [], [], [])).2.2.2.2)).bind fun y122 =>
      bif ((decide ((0 : Int) ≤ p120)) && (decide (p120 < (p121.length : Int)))) then
      (some ((p121.set p120.toNat (y122.1, y122.2.1, y122.2.2.1, y122.2.2.2.1, y122.2.2.2.2)) : List (Int × (List (Int × List Int × Bool)) × (List (List Int × Int × List Bool × Bool × Int × Bool × Int × (List (Int × Bool)))) × (List (Int × (List (Int × Int × Bool × List Int)))) × List Int))).bind fun z123 =>
      f_laws_toNodeS.l0 n p119 (IntKind.wrap .i64 (p120 + (1 : Int))) z123
      else none
      else none
    else
      some p121
noncomputable def f_laws_toNodeS (x0 : List (Int × (List (Int × List Int × Bool)) × (List (List Int × Int × List Bool × Bool × Int × Bool × Int × (List (Int × Bool)))) × (List (Int × (List (Int × Int × Bool × List Int)))) × List Int)) : Option ((List (Int × (List (Int × List Int × Bool)) × (List (List Int × Int × List Bool × Bool × Int × Bool × Int × (List (Int × Bool)))) × (List (Int × (List (Int × Int × Bool × List Int)))) × List Int))) :=
  bif (decide ((0 : Int) ≤ (x0.length : Int)) && Nat.ble (x0.length : Int).toNat 1353245080339) then
  (f_laws_toNodeS.l0 N x0 0 (List.replicate (x0.length : Int).toNat (0, [], [], [], []))).bind fun r124 =>
  some r124
  else none
noncomputable def C14 : Con := ⟨[(.B, false, [(.sl R7)])], [(false, [(.sl R7)])], [(.sl R7)], [(.sl R7)], fun (p : (List (Int × (List (Int × List Int × Bool)) × (List (List Int × Int × List Bool × Bool × Int × Bool × Int × (List (Int × Bool)))) × (List (Int × (List (Int × Int × Bool × List Int)))) × List Int))) => f_laws_toNodeS p⟩
noncomputable def f_laws_toNodeS.l0.c : LoopCon := ⟨1000, 6, [0, 2, 3, 4], ⟨[(0, .bor none R7 []), (2, .nil (some R7)), (3, .ref 1000 [] none), (4, .int .i64 0)], [(1000, .row R7 [])], 1001⟩, [(.sl R7), (.int .i64), (.sl R7)], [⟨.exit 0, [2, 3], ⟨[(2, .nil (some R7)), (3, .ref 1000 [] none)], [(1000, .row R7 [])], 1001⟩, [(.sl R7)]⟩], fun (p : (List (Int × (List (Int × List Int × Bool)) × (List (List Int × Int × List Bool × Bool × Int × Bool × Int × (List (Int × Bool)))) × (List (Int × (List (Int × Int × Bool × List Int)))) × List Int)) × Int × (List (Int × (List (Int × List Int × Bool)) × (List (List Int × Int × List Bool × Bool × Int × Bool × Int × (List (Int × Bool)))) × (List (Int × (List (Int × Int × Bool × List Int)))) × List Int))) => f_laws_toNodeS.l0 N p.1 p.2.1 p.2.2⟩
noncomputable abbrev K14 : Cons := [(29, C29)]
noncomputable abbrev L14 : List (Nat × Loops) := [(14, [(3, f_laws_toNodeS.l0.c)])]
abbrev Q14 : List (Nat × List (Int × Nat) × Nat) := []
noncomputable abbrev X14 : Nat → Ctx := ctxOf tb K14 L14 Q14
theorem f_laws_toNodeS.l0.ok : ∀ n p, (fun (p : (List (Int × (List (Int × List Int × Bool)) × (List (List Int × Int × List Bool × Bool × Int × Bool × Int × (List (Int × Bool)))) × (List (Int × (List (Int × Int × Bool × List Int)))) × List Int)) × Int × (List (Int × (List (Int × List Int × Bool)) × (List (List Int × Int × List Bool × Bool × Int × Bool × Int × (List (Int × Bool)))) × (List (Int × (List (Int × Int × Bool × List Int)))) × List Int))) => f_laws_toNodeS.l0 n p.1 p.2.1 p.2.2) p = iterD (roundOf fs X14 6 14 3 false f_laws_toNodeS.l0.c) n p :=
  iter_of (l := fun n => fun (p : (List (Int × (List (Int × List Int × Bool)) × (List (List Int × Int × List Bool × Bool × Int × Bool × Int × (List (Int × Bool)))) × (List (Int × (List (Int × Int × Bool × List Int)))) × List Int)) × Int × (List (Int × (List (Int × List Int × Bool)) × (List (List Int × Int × List Bool × Bool × Int × Bool × Int × (List (Int × Bool)))) × (List (Int × (List (Int × Int × Bool × List Int)))) × List Int))) => f_laws_toNodeS.l0 n p.1 p.2.1 p.2.2) (fun _ => rfl) (fun n p => by kernel_rfl)
theorem E14 : ∀ x, funRun fs X14 6 14 C14 x = C14.fn x := fun x => by kernel_rfl
theorem B14 : ConB Tryz.prog 14 C14 := ConB.make FS MIX TY (cons := K14) (L := L14) (ptrs := Q14) ⟨S29, trivial⟩ trivial ⟨⟨⟨N, fun p => f_laws_toNodeS.l0.ok N p⟩, trivial⟩, trivial⟩ rfl rfl E14
theorem S14 : ConS Tryz.prog 14 C14 := B14.call rfl
/-! laws.toPacket: function 30 -/
noncomputable def f_laws_toPacket (x0 : Int) (x1 : Int) (x2 : Bool) (x3 : Int) (x4 : Int) (x5 : Int) (x6 : Bool) (x7 : List Int) : Option (Int × Int × Bool × Int × Int × Int × Bool × List Int) :=
  (f_laws_toMsg x4 x5 x6 x7).bind fun y125 =>
  some (x0, x1, x2, x3, y125.1, y125.2.1, y125.2.2.1, y125.2.2.2)
noncomputable def C30 : Con := ⟨[(.B, true, [(.int .i64), (.int .i64), .bool, (.int .i64), (.int .i64), (.int .i64), .bool, (.sl R0)])], [(true, [(.int .i64), (.int .i64), .bool, (.int .i64), (.int .i64), (.int .i64), .bool, (.sl R0)])], [(.int .i64), (.int .i64), .bool, (.int .i64), (.int .i64), (.int .i64), .bool, (.sl R0)], [(.int .i64), (.int .i64), .bool, (.int .i64), (.int .i64), (.int .i64), .bool, (.sl R0)], fun (p : Int × Int × Bool × Int × Int × Int × Bool × List Int) => f_laws_toPacket p.1 p.2.1 p.2.2.1 p.2.2.2.1 p.2.2.2.2.1 p.2.2.2.2.2.1 p.2.2.2.2.2.2.1 p.2.2.2.2.2.2.2⟩
noncomputable abbrev K30 : Cons := [(58, C58)]
noncomputable abbrev L30 : List (Nat × Loops) := []
abbrev Q30 : List (Nat × List (Int × Nat) × Nat) := []
noncomputable abbrev X30 : Nat → Ctx := ctxOf tb K30 L30 Q30
theorem E30 : ∀ x, funRun fs X30 6 30 C30 x = C30.fn x := fun x => by kernel_rfl
theorem B30 : ConB Tryz.prog 30 C30 := ConB.make FS MIX TY (cons := K30) (L := L30) (ptrs := Q30) ⟨S58, trivial⟩ trivial trivial rfl rfl E30
theorem S30 : ConS Tryz.prog 30 C30 := B30.call rfl
/-! laws.toPacketS: function 15 -/
noncomputable def f_laws_toPacketS.l0 : Nat → (List (Int × Int × Bool × Int × Int × Int × Bool × List Int)) → Int → (List (Int × Int × Bool × Int × Int × Int × Bool × List Int)) → Option ((List (Int × Int × Bool × Int × Int × Int × Bool × List Int)))
  | 0, _, _, _ => none
  | n + 1, p126, p127, p128 =>
    bif (decide (p127 < (p126.length : Int))) then
      bif ((decide ((0 : Int) ≤ p127)) && (decide (p127 < (p126.length : Int)))) then
      (f_laws_toPacket ((p126.getD p127.toNat (0, 0, false, 0, 0, 0, false, [])).1) ((p126.getD p127.toNat (0, 0, false, 0, 0, 0, false, [])).2.1) ((p126.getD p127.toNat (0, 0, false, 0, 0, 0, false, [])).2.2.1) ((p126.getD p127.toNat (0, 0, false, 0, 0, 0, false, [])).2.2.2.1) ((p126.getD p127.toNat (0, 0, false, 0, 0, 0, false, [])).2.2.2.2.1) ((p126.getD p127.toNat (0, 0, false, 0, 0, 0, false, [])).2.2.2.2.2.1) ((p126.getD p127.toNat (0, 0, false, 0, 0, 0, false, [])).2.2.2.2.2.2.1) ((p126.getD p127.toNat (0, 0, false, 0, 0, 0, false, [])).2.2.2.2.2.2.2)).bind fun y129 =>
      bif ((decide ((0 : Int) ≤ p127)) && (decide (p127 < (p128.length : Int)))) then
      (some ((p128.set p127.toNat (y129.1, y129.2.1, y129.2.2.1, y129.2.2.2.1, y129.2.2.2.2.1, y129.2.2.2.2.2.1, y129.2.2.2.2.2.2.1, y129.2.2.2.2.2.2.2)) : List (Int × Int × Bool × Int × Int × Int × Bool × List Int))).bind fun z130 =>
      f_laws_toPacketS.l0 n p126 (IntKind.wrap .i64 (p127 + (1 : Int))) z130
      else none
      else none
    else
      some p128
noncomputable def f_laws_toPacketS (x0 : List (Int × Int × Bool × Int × Int × Int × Bool × List Int)) : Option ((List (Int × Int × Bool × Int × Int × Int × Bool × List Int))) :=
  bif (decide ((0 : Int) ≤ (x0.length : Int)) && Nat.ble (x0.length : Int).toNat 1759218604441) then
  (f_laws_toPacketS.l0 N x0 0 (List.replicate (x0.length : Int).toNat (0, 0, false, 0, 0, 0, false, []))).bind fun r131 =>
  some r131
  else none
noncomputable def C15 : Con := ⟨[(.B, false, [(.sl R8)])], [(false, [(.sl R8)])], [(.sl R8)], [(.sl R8)], fun (p : (List (Int × Int × Bool × Int × Int × Int × Bool × List Int))) => f_laws_toPacketS p⟩
noncomputable def f_laws_toPacketS.l0.c : LoopCon := ⟨1000, 6, [0, 2, 3, 4], ⟨[(0, .bor none R8 []), (2, .nil (some R8)), (3, .ref 1000 [] none), (4, .int .i64 0)], [(1000, .row R8 [])], 1001⟩, [(.sl R8), (.int .i64), (.sl R8)], [⟨.exit 0, [2, 3], ⟨[(2, .nil (some R8)), (3, .ref 1000 [] none)], [(1000, .row R8 [])], 1001⟩, [(.sl R8)]⟩], fun (p : (List (Int × Int × Bool × Int × Int × Int × Bool × List Int)) × Int × (List (Int × Int × Bool × Int × Int × Int × Bool × List Int))) => f_laws_toPacketS.l0 N p.1 p.2.1 p.2.2⟩
noncomputable abbrev K15 : Cons := [(30, C30)]
noncomputable abbrev L15 : List (Nat × Loops) := [(15, [(3, f_laws_toPacketS.l0.c)])]
abbrev Q15 : List (Nat × List (Int × Nat) × Nat) := []
noncomputable abbrev X15 : Nat → Ctx := ctxOf tb K15 L15 Q15
theorem f_laws_toPacketS.l0.ok : ∀ n p, (fun (p : (List (Int × Int × Bool × Int × Int × Int × Bool × List Int)) × Int × (List (Int × Int × Bool × Int × Int × Int × Bool × List Int))) => f_laws_toPacketS.l0 n p.1 p.2.1 p.2.2) p = iterD (roundOf fs X15 6 15 3 false f_laws_toPacketS.l0.c) n p :=
  iter_of (l := fun n => fun (p : (List (Int × Int × Bool × Int × Int × Int × Bool × List Int)) × Int × (List (Int × Int × Bool × Int × Int × Int × Bool × List Int))) => f_laws_toPacketS.l0 n p.1 p.2.1 p.2.2) (fun _ => rfl) (fun n p => by kernel_rfl)
theorem E15 : ∀ x, funRun fs X15 6 15 C15 x = C15.fn x := fun x => by kernel_rfl
theorem B15 : ConB Tryz.prog 15 C15 := ConB.make FS MIX TY (cons := K15) (L := L15) (ptrs := Q15) ⟨S30, trivial⟩ trivial ⟨⟨⟨N, fun p => f_laws_toPacketS.l0.ok N p⟩, trivial⟩, trivial⟩ rfl rfl E15
theorem S15 : ConS Tryz.prog 15 C15 := B15.call rfl
/-! laws.toWorld: function 6 -/
noncomputable def f_laws_toWorld (x0 : Int) (x1 : List (Int × (List (Int × List Int × Bool)) × (List (List Int × Int × List Bool × Bool × Int × Bool × Int × (List (Int × Bool)))) × (List (Int × (List (Int × Int × Bool × List Int)))) × List Int)) (x2 : List (Int × Int × Bool × Int × Int × Int × Bool × List Int)) : Option (Int × (List (Int × (List (Int × List Int × Bool)) × (List (List Int × Int × List Bool × Bool × Int × Bool × Int × (List (Int × Bool)))) × (List (Int × (List (Int × Int × Bool × List Int)))) × List Int)) × (List (Int × Int × Bool × Int × Int × Int × Bool × List Int))) :=
  (f_laws_toNodeS x1).bind fun y132 =>
  (f_laws_toPacketS x2).bind fun y133 =>
  some (x0, y132, y133)
noncomputable def C6 : Con := ⟨[(.B, true, [(.int .i64), (.sl R7), (.sl R8)])], [(true, [(.int .i64), (.sl R7), (.sl R8)])], [(.int .i64), (.sl R7), (.sl R8)], [(.int .i64), (.sl R7), (.sl R8)], fun (p : Int × (List (Int × (List (Int × List Int × Bool)) × (List (List Int × Int × List Bool × Bool × Int × Bool × Int × (List (Int × Bool)))) × (List (Int × (List (Int × Int × Bool × List Int)))) × List Int)) × (List (Int × Int × Bool × Int × Int × Int × Bool × List Int))) => f_laws_toWorld p.1 p.2.1 p.2.2⟩
noncomputable abbrev K6 : Cons := [(14, C14), (15, C15)]
noncomputable abbrev L6 : List (Nat × Loops) := []
abbrev Q6 : List (Nat × List (Int × Nat) × Nat) := []
noncomputable abbrev X6 : Nat → Ctx := ctxOf tb K6 L6 Q6
theorem E6 : ∀ x, funRun fs X6 6 6 C6 x = C6.fn x := fun x => by kernel_rfl
theorem B6 : ConB Tryz.prog 6 C6 := ConB.make FS MIX TY (cons := K6) (L := L6) (ptrs := Q6) ⟨S14, S15, trivial⟩ trivial trivial rfl rfl E6
theorem S6 : ConS Tryz.prog 6 C6 := B6.call rfl
/-! spec.l1In: function 11 -/
noncomputable def f_spec_l1In (x0 : Int) (x1 : Int) (x2 : Int) : Option (Bool) :=
  bif (decide (x1 ≤ x0)) then
    some (decide (x0 ≤ x2))
  else
    some false
noncomputable def C11 : Con := ⟨[(.B, false, [(.int .i64)]), (.B, false, [(.int .i64)]), (.B, false, [(.int .i64)])], [(false, [.bool])], [(.int .i64), (.int .i64), (.int .i64)], [.bool], fun (p : Int × Int × Int) => f_spec_l1In p.1 p.2.1 p.2.2⟩
noncomputable abbrev K11 : Cons := []
noncomputable abbrev L11 : List (Nat × Loops) := []
abbrev Q11 : List (Nat × List (Int × Nat) × Nat) := []
noncomputable abbrev X11 : Nat → Ctx := ctxOf tb K11 L11 Q11
theorem E11 : ∀ x, funRun fs X11 6 11 C11 x = C11.fn x := fun x => by kernel_rfl
theorem B11 : ConB Tryz.prog 11 C11 := ConB.make FS MIX TY (cons := K11) (L := L11) (ptrs := Q11) trivial trivial trivial rfl rfl E11
theorem S11 : ConS Tryz.prog 11 C11 := B11.call rfl
/-! spec.l1Words: function 53 -/
noncomputable def f_spec_l1Words.l0 : Nat → (List Int) → Int → Bool → Int → Option ((Bool) ⊕ (List Int × Int × Bool))
  | 0, _, _, _, _ => none
  | n + 1, p134, p135, p136, p137 =>
    bif (decide (p137 < (p134.length : Int))) then
      bif ((decide ((0 : Int) ≤ p137)) && (decide (p137 < (p134.length : Int)))) then
      (f_spec_l1In (p134.getD p137.toNat 0) 0 65535).bind fun y138 =>
      bif (!y138) then
        some (.inl false)
      else
        f_spec_l1Words.l0 n p134 p135 p136 (IntKind.wrap .i64 (p137 + (1 : Int)))
      else none
    else
      some (.inr (p134, p135, p136))
noncomputable def f_spec_l1Words (x0 : List Int) (x1 : Int) : Option (Bool) :=
  (f_spec_l1Words.l0 N x0 x1 false 0).bind fun r139 =>
  cs r139 (fun a140 =>
    some a140) (fun b141 =>
    some (decide ((b141.1.length : Int) = b141.2.1)))
noncomputable def C53 : Con := ⟨[(.B, false, [(.sl R0)]), (.B, false, [(.int .i64)])], [(false, [.bool])], [(.sl R0), (.int .i64)], [.bool], fun (p : List Int × Int) => f_spec_l1Words p.1 p.2⟩
noncomputable def f_spec_l1Words.l0.c : LoopCon := ⟨1000, 6, [0, 1, 4, 5], ⟨[(0, .bor none R0 []), (1, .int .i64 0), (4, .bool false), (5, .int .i64 0)], [], 1000⟩, [(.sl R0), (.int .i64), .bool, (.int .i64)], [⟨.ret, [4], ⟨[(4, .bool false)], [], 1000⟩, [.bool]⟩, ⟨.exit 0, [0, 1, 4], ⟨[(0, .bor none R0 []), (1, .int .i64 0), (4, .bool false)], [], 1000⟩, [(.sl R0), (.int .i64), .bool]⟩], fun (p : List Int × Int × Bool × Int) => f_spec_l1Words.l0 N p.1 p.2.1 p.2.2.1 p.2.2.2⟩
noncomputable abbrev K53 : Cons := [(11, C11)]
noncomputable abbrev L53 : List (Nat × Loops) := [(53, [(2, f_spec_l1Words.l0.c)])]
abbrev Q53 : List (Nat × List (Int × Nat) × Nat) := []
noncomputable abbrev X53 : Nat → Ctx := ctxOf tb K53 L53 Q53
theorem f_spec_l1Words.l0.ok : ∀ n p, (fun (p : List Int × Int × Bool × Int) => f_spec_l1Words.l0 n p.1 p.2.1 p.2.2.1 p.2.2.2) p = iterD (roundOf fs X53 6 53 2 false f_spec_l1Words.l0.c) n p :=
  iter_of (l := fun n => fun (p : List Int × Int × Bool × Int) => f_spec_l1Words.l0 n p.1 p.2.1 p.2.2.1 p.2.2.2) (fun _ => rfl) (fun n p => by kernel_rfl)
theorem E53 : ∀ x, funRun fs X53 6 53 C53 x = C53.fn x := fun x => by kernel_rfl
theorem B53 : ConB Tryz.prog 53 C53 := ConB.make FS MIX TY (cons := K53) (L := L53) (ptrs := Q53) ⟨S11, trivial⟩ trivial ⟨⟨⟨N, fun p => f_spec_l1Words.l0.ok N p⟩, trivial⟩, trivial⟩ rfl rfl E53
theorem S53 : ConS Tryz.prog 53 C53 := B53.call rfl
/-! spec.FrameOk: function 25 -/
noncomputable def f_spec_FrameOk (x0 : Int) (x1 : List Int) (x2 : Bool) : Option (Bool) :=
  bif (decide (x0 = (0 : Int))) then
    some (decide ((x1.length : Int) = (0 : Int)))
  else
    (f_spec_l1In x0 0 2).bind fun y142 =>
    bif y142 then
      (f_spec_l1Words x1 4).bind fun y143 =>
      some y143
    else
      some false
noncomputable def C25 : Con := ⟨[(.B, true, [(.int .i64), (.sl R0), .bool])], [(false, [.bool])], [(.int .i64), (.sl R0), .bool], [.bool], fun (p : Int × List Int × Bool) => f_spec_FrameOk p.1 p.2.1 p.2.2⟩
noncomputable abbrev K25 : Cons := [(11, C11), (53, C53)]
noncomputable abbrev L25 : List (Nat × Loops) := []
abbrev Q25 : List (Nat × List (Int × Nat) × Nat) := []
noncomputable abbrev X25 : Nat → Ctx := ctxOf tb K25 L25 Q25
theorem E25 : ∀ x, funRun fs X25 6 25 C25 x = C25.fn x := fun x => by kernel_rfl
theorem B25 : ConB Tryz.prog 25 C25 := ConB.make FS MIX TY (cons := K25) (L := L25) (ptrs := Q25) ⟨S11, S53, trivial⟩ trivial trivial rfl rfl E25
theorem S25 : ConS Tryz.prog 25 C25 := B25.call rfl
/-! spec.HomeOk: function 26 -/
noncomputable def f_spec_HomeOk.l0 : Nat → Int → Bool → Int → (List Int) → Int → (List Bool) → Bool → Int → Bool → Int → (List (Int × Bool)) → Option ((Bool) ⊕ (Bool))
  | 0, _, _, _, _, _, _, _, _, _, _, _ => none
  | n + 1, p149, p150, p151, p152, p153, p154, p155, p156, p157, p158, p159 =>
    bif (decide (p151 < (p159.length : Int))) then
      bif ((decide ((0 : Int) ≤ p151)) && (decide (p151 < (p159.length : Int)))) then
      (f_spec_l1In ((p159.getD p151.toNat (0, false)).1) 0 (IntKind.wrap .i64 (p149 - (1 : Int)))).bind fun y160 =>
      bif (!y160) then
        some (.inl false)
      else
        f_spec_HomeOk.l0 n p149 p150 (IntKind.wrap .i64 (p151 + (1 : Int))) p152 p153 p154 p155 p156 p157 p158 p159
      else none
    else
      some (.inr p150)
noncomputable def f_spec_HomeOk (x0 : List Int) (x1 : Int) (x2 : List Bool) (x3 : Bool) (x4 : Int) (x5 : Bool) (x6 : Int) (x7 : List (Int × Bool)) (x8 : Int) : Option (Bool) :=
  (f_spec_l1In x8 1 4).bind fun y144 =>
  bif (!y144) then
    some false
  else
    (f_spec_l1Words x0 4).bind fun y145 =>
    bif (!y145) then
      some false
    else
      (f_spec_l1In x1 (-1) (IntKind.wrap .i64 (x8 - (1 : Int)))).bind fun y146 =>
      bif (!y146) then
        some false
      else
        bif (!(decide ((x2.length : Int) = x8))) then
          some false
        else
          (f_spec_l1In x4 0 (IntKind.wrap .i64 (x8 - (1 : Int)))).bind fun y147 =>
          bif (!y147) then
            some false
          else
            (f_spec_l1In x6 0 x8).bind fun y148 =>
            bif (!y148) then
              some false
            else
              bif (decide ((12 : Int) < (x7.length : Int))) then
                some false
              else
                (f_spec_HomeOk.l0 N x8 false 0 x0 x1 x2 x3 x4 x5 x6 x7).bind fun r161 =>
                cs r161 (fun a162 =>
                  some a162) (fun b163 =>
                  some true)
noncomputable def C26 : Con := ⟨[(.B, true, [(.sl R0), (.int .i64), (.sl R2), .bool, (.int .i64), .bool, (.int .i64), (.sl R3)]), (.B, false, [(.int .i64)])], [(false, [.bool])], [(.sl R0), (.int .i64), (.sl R2), .bool, (.int .i64), .bool, (.int .i64), (.sl R3), (.int .i64)], [.bool], fun (p : List Int × Int × List Bool × Bool × Int × Bool × Int × (List (Int × Bool)) × Int) => f_spec_HomeOk p.1 p.2.1 p.2.2.1 p.2.2.2.1 p.2.2.2.2.1 p.2.2.2.2.2.1 p.2.2.2.2.2.2.1 p.2.2.2.2.2.2.2.1 p.2.2.2.2.2.2.2.2⟩
noncomputable def f_spec_HomeOk.l0.c : LoopCon := ⟨1000, 6, [1, 2, 4, 5], ⟨[(1, .int .i64 0), (2, .ptr 1000 0), (4, .bool false), (5, .int .i64 0)], [(1000, .box [.bor none R0 [], .int .i64 0, .bor none R2 [], .bool false, .int .i64 0, .bool false, .int .i64 0, .bor none R3 []])], 1001⟩, [(.int .i64), .bool, (.int .i64), (.sl R0), (.int .i64), (.sl R2), .bool, (.int .i64), .bool, (.int .i64), (.sl R3)], [⟨.ret, [4], ⟨[(4, .bool false)], [], 1000⟩, [.bool]⟩, ⟨.exit 0, [4], ⟨[(4, .bool false)], [], 1000⟩, [.bool]⟩], fun (p : Int × Bool × Int × List Int × Int × List Bool × Bool × Int × Bool × Int × (List (Int × Bool))) => f_spec_HomeOk.l0 N p.1 p.2.1 p.2.2.1 p.2.2.2.1 p.2.2.2.2.1 p.2.2.2.2.2.1 p.2.2.2.2.2.2.1 p.2.2.2.2.2.2.2.1 p.2.2.2.2.2.2.2.2.1 p.2.2.2.2.2.2.2.2.2.1 p.2.2.2.2.2.2.2.2.2.2⟩
noncomputable abbrev K26 : Cons := [(11, C11), (53, C53)]
noncomputable abbrev L26 : List (Nat × Loops) := [(26, [(4, f_spec_HomeOk.l0.c)])]
abbrev Q26 : List (Nat × List (Int × Nat) × Nat) := []
noncomputable abbrev X26 : Nat → Ctx := ctxOf tb K26 L26 Q26
theorem f_spec_HomeOk.l0.ok : ∀ n p, (fun (p : Int × Bool × Int × List Int × Int × List Bool × Bool × Int × Bool × Int × (List (Int × Bool))) => f_spec_HomeOk.l0 n p.1 p.2.1 p.2.2.1 p.2.2.2.1 p.2.2.2.2.1 p.2.2.2.2.2.1 p.2.2.2.2.2.2.1 p.2.2.2.2.2.2.2.1 p.2.2.2.2.2.2.2.2.1 p.2.2.2.2.2.2.2.2.2.1 p.2.2.2.2.2.2.2.2.2.2) p = iterD (roundOf fs X26 6 26 4 false f_spec_HomeOk.l0.c) n p :=
  iter_of (l := fun n => fun (p : Int × Bool × Int × List Int × Int × List Bool × Bool × Int × Bool × Int × (List (Int × Bool))) => f_spec_HomeOk.l0 n p.1 p.2.1 p.2.2.1 p.2.2.2.1 p.2.2.2.2.1 p.2.2.2.2.2.1 p.2.2.2.2.2.2.1 p.2.2.2.2.2.2.2.1 p.2.2.2.2.2.2.2.2.1 p.2.2.2.2.2.2.2.2.2.1 p.2.2.2.2.2.2.2.2.2.2) (fun _ => rfl) (fun n p => by kernel_rfl)
theorem E26 : ∀ x, funRun fs X26 6 26 C26 x = C26.fn x := fun x => by kernel_rfl
theorem B26 : ConB Tryz.prog 26 C26 := ConB.make FS MIX TY (cons := K26) (L := L26) (ptrs := Q26) ⟨S11, S53, trivial⟩ trivial ⟨⟨⟨N, fun p => f_spec_HomeOk.l0.ok N p⟩, trivial⟩, trivial⟩ rfl rfl E26
theorem S26 : ConS Tryz.prog 26 C26 := B26.call rfl
/-! spec.MsgOk: function 28 -/
noncomputable def f_spec_MsgOk (x0 : Int) (x1 : Int) (x2 : Bool) (x3 : List Int) : Option (Bool) :=
  bif (decide (x0 = (3 : Int))) then
    bif (decide (x0 = (3 : Int))) then
      (f_spec_l1In x0 1 7).bind fun y164 =>
      bif y164 then
        (f_spec_l1In x1 0 5).bind fun y165 =>
        bif y165 then
          (f_spec_l1Words x3 4).bind fun y166 =>
          some y166
        else
          some false
      else
        some false
    else
      (f_spec_l1In x0 1 7).bind fun y167 =>
      bif y167 then
        (f_spec_l1In x1 0 5).bind fun y168 =>
        bif y168 then
          bif (decide (x0 = (6 : Int))) then
            (f_spec_l1Words x3 4).bind fun y169 =>
            some y169
          else
            bif (!x2) then
              (f_spec_l1Words x3 4).bind fun y170 =>
              some y170
            else
              some false
        else
          some false
      else
        some false
  else
    bif (decide (x0 = (7 : Int))) then
      bif (decide (x0 = (3 : Int))) then
        (f_spec_l1In x0 1 7).bind fun y171 =>
        bif y171 then
          (f_spec_l1In x1 0 5).bind fun y172 =>
          bif y172 then
            (f_spec_l1Words x3 4).bind fun y173 =>
            some y173
          else
            some false
        else
          some false
      else
        (f_spec_l1In x0 1 7).bind fun y174 =>
        bif y174 then
          (f_spec_l1In x1 0 5).bind fun y175 =>
          bif y175 then
            bif (decide (x0 = (6 : Int))) then
              (f_spec_l1Words x3 4).bind fun y176 =>
              some y176
            else
              bif (!x2) then
                (f_spec_l1Words x3 4).bind fun y177 =>
                some y177
              else
                some false
          else
            some false
        else
          some false
    else
      bif (decide (x0 = (3 : Int))) then
        (f_spec_l1In x0 1 7).bind fun y178 =>
        bif y178 then
          (f_spec_l1In x1 0 5).bind fun y179 =>
          bif y179 then
            (f_spec_l1Words x3 0).bind fun y180 =>
            some y180
          else
            some false
        else
          some false
      else
        (f_spec_l1In x0 1 7).bind fun y181 =>
        bif y181 then
          (f_spec_l1In x1 0 5).bind fun y182 =>
          bif y182 then
            bif (decide (x0 = (6 : Int))) then
              (f_spec_l1Words x3 0).bind fun y183 =>
              some y183
            else
              bif (!x2) then
                (f_spec_l1Words x3 0).bind fun y184 =>
                some y184
              else
                some false
          else
            some false
        else
          some false
noncomputable def C28 : Con := ⟨[(.B, true, [(.int .i64), (.int .i64), .bool, (.sl R0)])], [(false, [.bool])], [(.int .i64), (.int .i64), .bool, (.sl R0)], [.bool], fun (p : Int × Int × Bool × List Int) => f_spec_MsgOk p.1 p.2.1 p.2.2.1 p.2.2.2⟩
noncomputable abbrev K28 : Cons := [(11, C11), (53, C53)]
noncomputable abbrev L28 : List (Nat × Loops) := []
abbrev Q28 : List (Nat × List (Int × Nat) × Nat) := []
noncomputable abbrev X28 : Nat → Ctx := ctxOf tb K28 L28 Q28
theorem E28 : ∀ x, funRun fs X28 6 28 C28 x = C28.fn x := fun x => by kernel_rfl
theorem B28 : ConB Tryz.prog 28 C28 := ConB.make FS MIX TY (cons := K28) (L := L28) (ptrs := Q28) ⟨S11, S53, trivial⟩ trivial trivial rfl rfl E28
theorem S28 : ConS Tryz.prog 28 C28 := B28.call rfl
/-! spec.SenderOk: function 27 -/
noncomputable def f_spec_SenderOk.l0 : Nat → Bool → Int → Int → (List (Int × Int × Bool × List Int)) → Option ((Bool) ⊕ (Bool × Int × (List (Int × Int × Bool × List Int))))
  | 0, _, _, _, _ => none
  | n + 1, p185, p186, p187, p188 =>
    bif (decide (p186 < (p188.length : Int))) then
      bif ((decide ((0 : Int) ≤ p186)) && (decide (p186 < (p188.length : Int)))) then
      (f_spec_MsgOk ((p188.getD p186.toNat (0, 0, false, [])).1) ((p188.getD p186.toNat (0, 0, false, [])).2.1) ((p188.getD p186.toNat (0, 0, false, [])).2.2.1) ((p188.getD p186.toNat (0, 0, false, [])).2.2.2)).bind fun y189 =>
      bif (!y189) then
        some (.inl false)
      else
        f_spec_SenderOk.l0 n p185 (IntKind.wrap .i64 (p186 + (1 : Int))) p187 p188
      else none
    else
      some (.inr (p185, p187, p188))
noncomputable def f_spec_SenderOk (x0 : Int) (x1 : List (Int × Int × Bool × List Int)) : Option (Bool) :=
  (f_spec_SenderOk.l0 N false 0 x0 x1).bind fun r190 =>
  cs r190 (fun a191 =>
    some a191) (fun b192 =>
    (f_spec_l1In b192.2.1 0 100000).bind fun y193 =>
    bif y193 then
      bif (decide ((b192.2.2.length : Int) ≤ (30 : Int))) then
        some (decide ((IntKind.wrap .i64 (b192.2.1 + (b192.2.2.length : Int))) ≤ (100000 : Int)))
      else
        some false
    else
      some false)
noncomputable def C27 : Con := ⟨[(.B, true, [(.int .i64), (.sl R5)])], [(false, [.bool])], [(.int .i64), (.sl R5)], [.bool], fun (p : Int × (List (Int × Int × Bool × List Int))) => f_spec_SenderOk p.1 p.2⟩
noncomputable def f_spec_SenderOk.l0.c : LoopCon := ⟨1000, 6, [1, 2, 3], ⟨[(1, .ptr 1000 0), (2, .bool false), (3, .int .i64 0)], [(1000, .box [.int .i64 0, .bor none R5 []])], 1001⟩, [.bool, (.int .i64), (.int .i64), (.sl R5)], [⟨.ret, [2], ⟨[(2, .bool false)], [], 1000⟩, [.bool]⟩, ⟨.exit 0, [1, 2], ⟨[(1, .ptr 1000 0), (2, .bool false)], [(1000, .box [.int .i64 0, .bor none R5 []])], 1001⟩, [.bool, (.int .i64), (.sl R5)]⟩], fun (p : Bool × Int × Int × (List (Int × Int × Bool × List Int))) => f_spec_SenderOk.l0 N p.1 p.2.1 p.2.2.1 p.2.2.2⟩
noncomputable abbrev K27 : Cons := [(11, C11), (28, C28)]
noncomputable abbrev L27 : List (Nat × Loops) := [(27, [(2, f_spec_SenderOk.l0.c)])]
abbrev Q27 : List (Nat × List (Int × Nat) × Nat) := []
noncomputable abbrev X27 : Nat → Ctx := ctxOf tb K27 L27 Q27
theorem f_spec_SenderOk.l0.ok : ∀ n p, (fun (p : Bool × Int × Int × (List (Int × Int × Bool × List Int))) => f_spec_SenderOk.l0 n p.1 p.2.1 p.2.2.1 p.2.2.2) p = iterD (roundOf fs X27 6 27 2 false f_spec_SenderOk.l0.c) n p :=
  iter_of (l := fun n => fun (p : Bool × Int × Int × (List (Int × Int × Bool × List Int))) => f_spec_SenderOk.l0 n p.1 p.2.1 p.2.2.1 p.2.2.2) (fun _ => rfl) (fun n p => by kernel_rfl)
theorem E27 : ∀ x, funRun fs X27 6 27 C27 x = C27.fn x := fun x => by kernel_rfl
theorem B27 : ConB Tryz.prog 27 C27 := ConB.make FS MIX TY (cons := K27) (L := L27) (ptrs := Q27) ⟨S11, S28, trivial⟩ trivial ⟨⟨⟨N, fun p => f_spec_SenderOk.l0.ok N p⟩, trivial⟩, trivial⟩ rfl rfl E27
theorem S27 : ConS Tryz.prog 27 C27 := B27.call rfl
/-! spec.NodeOk: function 12 -/
noncomputable def f_spec_NodeOk.l1 : Nat → Int → Bool → Int → Int → (List (Int × List Int × Bool)) → (List (List Int × Int × List Bool × Bool × Int × Bool × Int × (List (Int × Bool)))) → (List (Int × (List (Int × Int × Bool × List Int)))) → (List Int) → Option ((Bool) ⊕ (Bool))
  | 0, _, _, _, _, _, _, _, _ => none
  | n + 1, p209, p210, p211, p212, p213, p214, p215, p216 =>
    bif (decide (p211 < p209)) then
      bif ((decide ((0 : Int) ≤ p211)) && (decide (p211 < (p215.length : Int)))) then
      (f_spec_SenderOk ((p215.getD p211.toNat (0, [])).1) ((p215.getD p211.toNat (0, [])).2)).bind fun y217 =>
      bif (!y217) then
        some (.inl false)
      else
        bif ((decide ((0 : Int) ≤ p211)) && (decide (p211 < (p216.length : Int)))) then
        (f_spec_l1In (p216.getD p211.toNat 0) 0 100000).bind fun y218 =>
        bif (!y218) then
          some (.inl false)
        else
          f_spec_NodeOk.l1 n p209 p210 (IntKind.wrap .i64 (p211 + (1 : Int))) p212 p213 p214 p215 p216
        else none
      else none
    else
      some (.inr p210)
noncomputable def f_spec_NodeOk.l0 : Nat → Int → Bool → Int → Int → (List (Int × List Int × Bool)) → (List (List Int × Int × List Bool × Bool × Int × Bool × Int × (List (Int × Bool)))) → (List (Int × (List (Int × Int × Bool × List Int)))) → (List Int) → Option ((Bool) ⊕ (Int × Bool × Int × (List (Int × List Int × Bool)) × (List (List Int × Int × List Bool × Bool × Int × Bool × Int × (List (Int × Bool)))) × (List (Int × (List (Int × Int × Bool × List Int)))) × List Int))
  | 0, _, _, _, _, _, _, _, _ => none
  | n + 1, p196, p197, p198, p199, p200, p201, p202, p203 =>
    bif (decide (p198 < (6 : Int))) then
      bif ((decide ((0 : Int) ≤ p198)) && (decide (p198 < (p200.length : Int)))) then
      (f_spec_FrameOk ((p200.getD p198.toNat (0, [], false)).1) ((p200.getD p198.toNat (0, [], false)).2.1) ((p200.getD p198.toNat (0, [], false)).2.2)).bind fun y204 =>
      bif (!y204) then
        some (.inl false)
      else
        bif ((decide ((0 : Int) ≤ p198)) && (decide (p198 < (p201.length : Int)))) then
        (f_spec_HomeOk ((p201.getD p198.toNat ([], 0, [], false, 0, false, 0, [])).1) ((p201.getD p198.toNat ([], 0, [], false, 0, false, 0, [])).2.1) ((p201.getD p198.toNat ([], 0, [], false, 0, false, 0, [])).2.2.1) ((p201.getD p198.toNat ([], 0, [], false, 0, false, 0, [])).2.2.2.1) ((p201.getD p198.toNat ([], 0, [], false, 0, false, 0, [])).2.2.2.2.1) ((p201.getD p198.toNat ([], 0, [], false, 0, false, 0, [])).2.2.2.2.2.1) ((p201.getD p198.toNat ([], 0, [], false, 0, false, 0, [])).2.2.2.2.2.2.1) ((p201.getD p198.toNat ([], 0, [], false, 0, false, 0, [])).2.2.2.2.2.2.2) p196).bind fun y205 =>
        bif (!y205) then
          some (.inl false)
        else
          f_spec_NodeOk.l0 n p196 p197 (IntKind.wrap .i64 (p198 + (1 : Int))) p199 p200 p201 p202 p203
        else none
      else none
    else
      some (.inr (p196, p197, p199, p200, p201, p202, p203))
noncomputable def f_spec_NodeOk (x0 : Int) (x1 : List (Int × List Int × Bool)) (x2 : List (List Int × Int × List Bool × Bool × Int × Bool × Int × (List (Int × Bool)))) (x3 : List (Int × (List (Int × Int × Bool × List Int)))) (x4 : List Int) (x5 : Int) : Option (Bool) :=
  (f_spec_l1In x5 1 4).bind fun y194 =>
  bif (!y194) then
    some false
  else
    (f_spec_l1In x0 0 (IntKind.wrap .i64 (x5 - (1 : Int)))).bind fun y195 =>
    bif (!y195) then
      some false
    else
      bif (!(decide ((x1.length : Int) = (6 : Int)))) then
        some false
      else
        bif (!(decide ((x2.length : Int) = (6 : Int)))) then
          some false
        else
          bif (!(decide ((x3.length : Int) = x5))) then
            some false
          else
            bif (!(decide ((x4.length : Int) = x5))) then
              some false
            else
              (f_spec_NodeOk.l0 N x5 false 0 x0 x1 x2 x3 x4).bind fun r206 =>
              cs r206 (fun a207 =>
                some a207) (fun b208 =>
                (f_spec_NodeOk.l1 N b208.1 b208.2.1 0 b208.2.2.1 b208.2.2.2.1 b208.2.2.2.2.1 b208.2.2.2.2.2.1 b208.2.2.2.2.2.2).bind fun r219 =>
                cs r219 (fun a220 =>
                  some a220) (fun b221 =>
                  some true))
noncomputable def C12 : Con := ⟨[(.B, true, [(.int .i64), (.sl R1), (.sl R4), (.sl R6), (.sl R0)]), (.B, false, [(.int .i64)])], [(false, [.bool])], [(.int .i64), (.sl R1), (.sl R4), (.sl R6), (.sl R0), (.int .i64)], [.bool], fun (p : Int × (List (Int × List Int × Bool)) × (List (List Int × Int × List Bool × Bool × Int × Bool × Int × (List (Int × Bool)))) × (List (Int × (List (Int × Int × Bool × List Int)))) × List Int × Int) => f_spec_NodeOk p.1 p.2.1 p.2.2.1 p.2.2.2.1 p.2.2.2.2.1 p.2.2.2.2.2⟩
noncomputable def f_spec_NodeOk.l0.c : LoopCon := ⟨1000, 6, [1, 2, 4, 5], ⟨[(1, .int .i64 0), (2, .ptr 1000 0), (4, .bool false), (5, .int .i64 0)], [(1000, .box [.int .i64 0, .bor none R1 [], .bor none R4 [], .bor none R6 [], .bor none R0 []])], 1001⟩, [(.int .i64), .bool, (.int .i64), (.int .i64), (.sl R1), (.sl R4), (.sl R6), (.sl R0)], [⟨.ret, [4], ⟨[(4, .bool false)], [], 1000⟩, [.bool]⟩, ⟨.exit 0, [1, 2, 4], ⟨[(1, .int .i64 0), (2, .ptr 1000 0), (4, .bool false)], [(1000, .box [.int .i64 0, .bor none R1 [], .bor none R4 [], .bor none R6 [], .bor none R0 []])], 1001⟩, [(.int .i64), .bool, (.int .i64), (.sl R1), (.sl R4), (.sl R6), (.sl R0)]⟩], fun (p : Int × Bool × Int × Int × (List (Int × List Int × Bool)) × (List (List Int × Int × List Bool × Bool × Int × Bool × Int × (List (Int × Bool)))) × (List (Int × (List (Int × Int × Bool × List Int)))) × List Int) => f_spec_NodeOk.l0 N p.1 p.2.1 p.2.2.1 p.2.2.2.1 p.2.2.2.2.1 p.2.2.2.2.2.1 p.2.2.2.2.2.2.1 p.2.2.2.2.2.2.2⟩
noncomputable def f_spec_NodeOk.l1.c : LoopCon := ⟨1000, 6, [1, 2, 4, 6], ⟨[(1, .int .i64 0), (2, .ptr 1000 0), (4, .bool false), (6, .int .i64 0)], [(1000, .box [.int .i64 0, .bor none R1 [], .bor none R4 [], .bor none R6 [], .bor none R0 []])], 1001⟩, [(.int .i64), .bool, (.int .i64), (.int .i64), (.sl R1), (.sl R4), (.sl R6), (.sl R0)], [⟨.ret, [4], ⟨[(4, .bool false)], [], 1000⟩, [.bool]⟩, ⟨.exit 2, [4], ⟨[(4, .bool false)], [], 1000⟩, [.bool]⟩], fun (p : Int × Bool × Int × Int × (List (Int × List Int × Bool)) × (List (List Int × Int × List Bool × Bool × Int × Bool × Int × (List (Int × Bool)))) × (List (Int × (List (Int × Int × Bool × List Int)))) × List Int) => f_spec_NodeOk.l1 N p.1 p.2.1 p.2.2.1 p.2.2.2.1 p.2.2.2.2.1 p.2.2.2.2.2.1 p.2.2.2.2.2.2.1 p.2.2.2.2.2.2.2⟩
noncomputable abbrev K12 : Cons := [(11, C11), (25, C25), (26, C26), (27, C27)]
noncomputable abbrev L12 : List (Nat × Loops) := [(12, [(4, f_spec_NodeOk.l0.c), (9, f_spec_NodeOk.l1.c)])]
abbrev Q12 : List (Nat × List (Int × Nat) × Nat) := []
noncomputable abbrev X12 : Nat → Ctx := ctxOf tb K12 L12 Q12
theorem f_spec_NodeOk.l0.ok : ∀ n p, (fun (p : Int × Bool × Int × Int × (List (Int × List Int × Bool)) × (List (List Int × Int × List Bool × Bool × Int × Bool × Int × (List (Int × Bool)))) × (List (Int × (List (Int × Int × Bool × List Int)))) × List Int) => f_spec_NodeOk.l0 n p.1 p.2.1 p.2.2.1 p.2.2.2.1 p.2.2.2.2.1 p.2.2.2.2.2.1 p.2.2.2.2.2.2.1 p.2.2.2.2.2.2.2) p = iterD (roundOf fs X12 6 12 4 false f_spec_NodeOk.l0.c) n p :=
  iter_of (l := fun n => fun (p : Int × Bool × Int × Int × (List (Int × List Int × Bool)) × (List (List Int × Int × List Bool × Bool × Int × Bool × Int × (List (Int × Bool)))) × (List (Int × (List (Int × Int × Bool × List Int)))) × List Int) => f_spec_NodeOk.l0 n p.1 p.2.1 p.2.2.1 p.2.2.2.1 p.2.2.2.2.1 p.2.2.2.2.2.1 p.2.2.2.2.2.2.1 p.2.2.2.2.2.2.2) (fun _ => rfl) (fun n p => by kernel_rfl)
theorem f_spec_NodeOk.l1.ok : ∀ n p, (fun (p : Int × Bool × Int × Int × (List (Int × List Int × Bool)) × (List (List Int × Int × List Bool × Bool × Int × Bool × Int × (List (Int × Bool)))) × (List (Int × (List (Int × Int × Bool × List Int)))) × List Int) => f_spec_NodeOk.l1 n p.1 p.2.1 p.2.2.1 p.2.2.2.1 p.2.2.2.2.1 p.2.2.2.2.2.1 p.2.2.2.2.2.2.1 p.2.2.2.2.2.2.2) p = iterD (roundOf fs X12 6 12 9 false f_spec_NodeOk.l1.c) n p :=
  iter_of (l := fun n => fun (p : Int × Bool × Int × Int × (List (Int × List Int × Bool)) × (List (List Int × Int × List Bool × Bool × Int × Bool × Int × (List (Int × Bool)))) × (List (Int × (List (Int × Int × Bool × List Int)))) × List Int) => f_spec_NodeOk.l1 n p.1 p.2.1 p.2.2.1 p.2.2.2.1 p.2.2.2.2.1 p.2.2.2.2.2.1 p.2.2.2.2.2.2.1 p.2.2.2.2.2.2.2) (fun _ => rfl) (fun n p => by kernel_rfl)
theorem E12 : ∀ x, funRun fs X12 6 12 C12 x = C12.fn x := fun x => by kernel_rfl
theorem B12 : ConB Tryz.prog 12 C12 := ConB.make FS MIX TY (cons := K12) (L := L12) (ptrs := Q12) ⟨S11, S25, S26, S27, trivial⟩ trivial ⟨⟨⟨N, fun p => f_spec_NodeOk.l0.ok N p⟩, ⟨N, fun p => f_spec_NodeOk.l1.ok N p⟩, trivial⟩, trivial⟩ rfl rfl E12
theorem S12 : ConS Tryz.prog 12 C12 := B12.call rfl
/-! spec.PacketOk: function 13 -/
noncomputable def f_spec_PacketOk (x0 : Int) (x1 : Int) (x2 : Bool) (x3 : Int) (x4 : Int) (x5 : Int) (x6 : Bool) (x7 : List Int) (x8 : Int) : Option (Bool) :=
  (f_spec_l1In x8 1 4).bind fun y222 =>
  bif (!y222) then
    some false
  else
    (f_spec_l1In x0 0 (IntKind.wrap .i64 (x8 - (1 : Int)))).bind fun y223 =>
    bif (!y223) then
      some false
    else
      (f_spec_l1In x1 0 (IntKind.wrap .i64 (x8 - (1 : Int)))).bind fun y224 =>
      bif (!y224) then
        some false
      else
        (f_spec_l1In x3 0 100000).bind fun y225 =>
        bif (!y225) then
          some false
        else
          bif x2 then
            bif (decide (x4 = (0 : Int))) then
              bif (decide (x5 = (0 : Int))) then
                bif (!x6) then
                  some (decide ((x7.length : Int) = (0 : Int)))
                else
                  some false
              else
                some false
            else
              some false
          else
            (f_spec_MsgOk x4 x5 x6 x7).bind fun y226 =>
            some y226
noncomputable def C13 : Con := ⟨[(.B, true, [(.int .i64), (.int .i64), .bool, (.int .i64), (.int .i64), (.int .i64), .bool, (.sl R0)]), (.B, false, [(.int .i64)])], [(false, [.bool])], [(.int .i64), (.int .i64), .bool, (.int .i64), (.int .i64), (.int .i64), .bool, (.sl R0), (.int .i64)], [.bool], fun (p : Int × Int × Bool × Int × Int × Int × Bool × List Int × Int) => f_spec_PacketOk p.1 p.2.1 p.2.2.1 p.2.2.2.1 p.2.2.2.2.1 p.2.2.2.2.2.1 p.2.2.2.2.2.2.1 p.2.2.2.2.2.2.2.1 p.2.2.2.2.2.2.2.2⟩
noncomputable abbrev K13 : Cons := [(11, C11), (28, C28)]
noncomputable abbrev L13 : List (Nat × Loops) := []
abbrev Q13 : List (Nat × List (Int × Nat) × Nat) := []
noncomputable abbrev X13 : Nat → Ctx := ctxOf tb K13 L13 Q13
theorem E13 : ∀ x, funRun fs X13 6 13 C13 x = C13.fn x := fun x => by kernel_rfl
theorem B13 : ConB Tryz.prog 13 C13 := ConB.make FS MIX TY (cons := K13) (L := L13) (ptrs := Q13) ⟨S11, S28, trivial⟩ trivial trivial rfl rfl E13
theorem S13 : ConS Tryz.prog 13 C13 := B13.call rfl
/-! spec.WorldOk: function 5 -/
noncomputable def f_spec_WorldOk.l1 : Nat → Bool → Int → Int → (List (Int × (List (Int × List Int × Bool)) × (List (List Int × Int × List Bool × Bool × Int × Bool × Int × (List (Int × Bool)))) × (List (Int × (List (Int × Int × Bool × List Int)))) × List Int)) → (List (Int × Int × Bool × Int × Int × Int × Bool × List Int)) → Option ((Bool) ⊕ (Bool))
  | 0, _, _, _, _, _ => none
  | n + 1, p237, p238, p239, p240, p241 =>
    bif (decide (p238 < (p241.length : Int))) then
      bif ((decide ((0 : Int) ≤ p238)) && (decide (p238 < (p241.length : Int)))) then
      (f_spec_PacketOk ((p241.getD p238.toNat (0, 0, false, 0, 0, 0, false, [])).1) ((p241.getD p238.toNat (0, 0, false, 0, 0, 0, false, [])).2.1) ((p241.getD p238.toNat (0, 0, false, 0, 0, 0, false, [])).2.2.1) ((p241.getD p238.toNat (0, 0, false, 0, 0, 0, false, [])).2.2.2.1) ((p241.getD p238.toNat (0, 0, false, 0, 0, 0, false, [])).2.2.2.2.1) ((p241.getD p238.toNat (0, 0, false, 0, 0, 0, false, [])).2.2.2.2.2.1) ((p241.getD p238.toNat (0, 0, false, 0, 0, 0, false, [])).2.2.2.2.2.2.1) ((p241.getD p238.toNat (0, 0, false, 0, 0, 0, false, [])).2.2.2.2.2.2.2) p239).bind fun y242 =>
      bif (!y242) then
        some (.inl false)
      else
        f_spec_WorldOk.l1 n p237 (IntKind.wrap .i64 (p238 + (1 : Int))) p239 p240 p241
      else none
    else
      some (.inr p237)
noncomputable def f_spec_WorldOk.l0 : Nat → Bool → Int → Int → (List (Int × (List (Int × List Int × Bool)) × (List (List Int × Int × List Bool × Bool × Int × Bool × Int × (List (Int × Bool)))) × (List (Int × (List (Int × Int × Bool × List Int)))) × List Int)) → (List (Int × Int × Bool × Int × Int × Int × Bool × List Int)) → Option ((Bool) ⊕ (Bool × Int × (List (Int × (List (Int × List Int × Bool)) × (List (List Int × Int × List Bool × Bool × Int × Bool × Int × (List (Int × Bool)))) × (List (Int × (List (Int × Int × Bool × List Int)))) × List Int)) × (List (Int × Int × Bool × Int × Int × Int × Bool × List Int))))
  | 0, _, _, _, _, _ => none
  | n + 1, p228, p229, p230, p231, p232 =>
    bif (decide (p229 < p230)) then
      bif ((decide ((0 : Int) ≤ p229)) && (decide (p229 < (p231.length : Int)))) then
      (f_spec_NodeOk ((p231.getD p229.toNat (0, [], [], [], [])).1) ((p231.getD p229.toNat (0, [], [], [], [])).2.1) ((p231.getD p229.toNat (0, [], [], [], [])).2.2.1) ((p231.getD p229.toNat (0, [], [], [], [])).2.2.2.1) ((p231.getD p229.toNat (0, [], [], [], [])).2.2.2.2) p230).bind fun y233 =>
      bif (!y233) then
        some (.inl false)
      else
        bif ((decide ((0 : Int) ≤ p229)) && (decide (p229 < (p231.length : Int)))) then
        bif (!(decide (((p231.getD p229.toNat (0, [], [], [], [])).1) = p229))) then
          some (.inl false)
        else
          f_spec_WorldOk.l0 n p228 (IntKind.wrap .i64 (p229 + (1 : Int))) p230 p231 p232
        else none
      else none
    else
      some (.inr (p228, p230, p231, p232))
noncomputable def f_spec_WorldOk (x0 : Int) (x1 : List (Int × (List (Int × List Int × Bool)) × (List (List Int × Int × List Bool × Bool × Int × Bool × Int × (List (Int × Bool)))) × (List (Int × (List (Int × Int × Bool × List Int)))) × List Int)) (x2 : List (Int × Int × Bool × Int × Int × Int × Bool × List Int)) : Option (Bool) :=
  (f_spec_l1In x0 1 4).bind fun y227 =>
  bif (!y227) then
    some false
  else
    bif (!(decide ((x1.length : Int) = x0))) then
      some false
    else
      bif (decide ((40 : Int) < (x2.length : Int))) then
        some false
      else
        (f_spec_WorldOk.l0 N false 0 x0 x1 x2).bind fun r234 =>
        cs r234 (fun a235 =>
          some a235) (fun b236 =>
          (f_spec_WorldOk.l1 N b236.1 0 b236.2.1 b236.2.2.1 b236.2.2.2).bind fun r243 =>
          cs r243 (fun a244 =>
            some a244) (fun b245 =>
            some true))
noncomputable def C5 : Con := ⟨[(.B, true, [(.int .i64), (.sl R7), (.sl R8)])], [(false, [.bool])], [(.int .i64), (.sl R7), (.sl R8)], [.bool], fun (p : Int × (List (Int × (List (Int × List Int × Bool)) × (List (List Int × Int × List Bool × Bool × Int × Bool × Int × (List (Int × Bool)))) × (List (Int × (List (Int × Int × Bool × List Int)))) × List Int)) × (List (Int × Int × Bool × Int × Int × Int × Bool × List Int))) => f_spec_WorldOk p.1 p.2.1 p.2.2⟩
noncomputable def f_spec_WorldOk.l0.c : LoopCon := ⟨1000, 6, [1, 2, 3], ⟨[(1, .ptr 1000 0), (2, .bool false), (3, .int .i64 0)], [(1000, .box [.int .i64 0, .bor none R7 [], .bor none R8 []])], 1001⟩, [.bool, (.int .i64), (.int .i64), (.sl R7), (.sl R8)], [⟨.ret, [2], ⟨[(2, .bool false)], [], 1000⟩, [.bool]⟩, ⟨.exit 0, [1, 2], ⟨[(1, .ptr 1000 0), (2, .bool false)], [(1000, .box [.int .i64 0, .bor none R7 [], .bor none R8 []])], 1001⟩, [.bool, (.int .i64), (.sl R7), (.sl R8)]⟩], fun (p : Bool × Int × Int × (List (Int × (List (Int × List Int × Bool)) × (List (List Int × Int × List Bool × Bool × Int × Bool × Int × (List (Int × Bool)))) × (List (Int × (List (Int × Int × Bool × List Int)))) × List Int)) × (List (Int × Int × Bool × Int × Int × Int × Bool × List Int))) => f_spec_WorldOk.l0 N p.1 p.2.1 p.2.2.1 p.2.2.2.1 p.2.2.2.2⟩
noncomputable def f_spec_WorldOk.l1.c : LoopCon := ⟨1000, 6, [1, 2, 4], ⟨[(1, .ptr 1000 0), (2, .bool false), (4, .int .i64 0)], [(1000, .box [.int .i64 0, .bor none R7 [], .bor none R8 []])], 1001⟩, [.bool, (.int .i64), (.int .i64), (.sl R7), (.sl R8)], [⟨.ret, [2], ⟨[(2, .bool false)], [], 1000⟩, [.bool]⟩, ⟨.exit 2, [2], ⟨[(2, .bool false)], [], 1000⟩, [.bool]⟩], fun (p : Bool × Int × Int × (List (Int × (List (Int × List Int × Bool)) × (List (List Int × Int × List Bool × Bool × Int × Bool × Int × (List (Int × Bool)))) × (List (Int × (List (Int × Int × Bool × List Int)))) × List Int)) × (List (Int × Int × Bool × Int × Int × Int × Bool × List Int))) => f_spec_WorldOk.l1 N p.1 p.2.1 p.2.2.1 p.2.2.2.1 p.2.2.2.2⟩
noncomputable abbrev K5 : Cons := [(11, C11), (12, C12), (13, C13)]
noncomputable abbrev L5 : List (Nat × Loops) := [(5, [(4, f_spec_WorldOk.l0.c), (9, f_spec_WorldOk.l1.c)])]
abbrev Q5 : List (Nat × List (Int × Nat) × Nat) := []
noncomputable abbrev X5 : Nat → Ctx := ctxOf tb K5 L5 Q5
theorem f_spec_WorldOk.l0.ok : ∀ n p, (fun (p : Bool × Int × Int × (List (Int × (List (Int × List Int × Bool)) × (List (List Int × Int × List Bool × Bool × Int × Bool × Int × (List (Int × Bool)))) × (List (Int × (List (Int × Int × Bool × List Int)))) × List Int)) × (List (Int × Int × Bool × Int × Int × Int × Bool × List Int))) => f_spec_WorldOk.l0 n p.1 p.2.1 p.2.2.1 p.2.2.2.1 p.2.2.2.2) p = iterD (roundOf fs X5 6 5 4 false f_spec_WorldOk.l0.c) n p :=
  iter_of (l := fun n => fun (p : Bool × Int × Int × (List (Int × (List (Int × List Int × Bool)) × (List (List Int × Int × List Bool × Bool × Int × Bool × Int × (List (Int × Bool)))) × (List (Int × (List (Int × Int × Bool × List Int)))) × List Int)) × (List (Int × Int × Bool × Int × Int × Int × Bool × List Int))) => f_spec_WorldOk.l0 n p.1 p.2.1 p.2.2.1 p.2.2.2.1 p.2.2.2.2) (fun _ => rfl) (fun n p => by kernel_rfl)
theorem f_spec_WorldOk.l1.ok : ∀ n p, (fun (p : Bool × Int × Int × (List (Int × (List (Int × List Int × Bool)) × (List (List Int × Int × List Bool × Bool × Int × Bool × Int × (List (Int × Bool)))) × (List (Int × (List (Int × Int × Bool × List Int)))) × List Int)) × (List (Int × Int × Bool × Int × Int × Int × Bool × List Int))) => f_spec_WorldOk.l1 n p.1 p.2.1 p.2.2.1 p.2.2.2.1 p.2.2.2.2) p = iterD (roundOf fs X5 6 5 9 false f_spec_WorldOk.l1.c) n p :=
  iter_of (l := fun n => fun (p : Bool × Int × Int × (List (Int × (List (Int × List Int × Bool)) × (List (List Int × Int × List Bool × Bool × Int × Bool × Int × (List (Int × Bool)))) × (List (Int × (List (Int × Int × Bool × List Int)))) × List Int)) × (List (Int × Int × Bool × Int × Int × Int × Bool × List Int))) => f_spec_WorldOk.l1 n p.1 p.2.1 p.2.2.1 p.2.2.2.1 p.2.2.2.2) (fun _ => rfl) (fun n p => by kernel_rfl)
theorem E5 : ∀ x, funRun fs X5 6 5 C5 x = C5.fn x := fun x => by kernel_rfl
theorem B5 : ConB Tryz.prog 5 C5 := ConB.make FS MIX TY (cons := K5) (L := L5) (ptrs := Q5) ⟨S11, S12, S13, trivial⟩ trivial ⟨⟨⟨N, fun p => f_spec_WorldOk.l0.ok N p⟩, ⟨N, fun p => f_spec_WorldOk.l1.ok N p⟩, trivial⟩, trivial⟩ rfl rfl E5
theorem S5 : ConS Tryz.prog 5 C5 := B5.call rfl
/-! impl.from: function 16 -/
noncomputable def f_impl_from (x0 : Int) (x1 : Int) (x2 : Int) : Option (Bool) :=
  bif (decide (x1 ≤ x0)) then
    some (decide (x0 ≤ x2))
  else
    some false
noncomputable def C16 : Con := ⟨[(.B, false, [(.int .i64)]), (.B, false, [(.int .i64)]), (.B, false, [(.int .i64)])], [(false, [.bool])], [(.int .i64), (.int .i64), (.int .i64)], [.bool], fun (p : Int × Int × Int) => f_impl_from p.1 p.2.1 p.2.2⟩
noncomputable abbrev K16 : Cons := []
noncomputable abbrev L16 : List (Nat × Loops) := []
abbrev Q16 : List (Nat × List (Int × Nat) × Nat) := []
noncomputable abbrev X16 : Nat → Ctx := ctxOf tb K16 L16 Q16
theorem E16 : ∀ x, funRun fs X16 6 16 C16 x = C16.fn x := fun x => by kernel_rfl
theorem B16 : ConB Tryz.prog 16 C16 := ConB.make FS MIX TY (cons := K16) (L := L16) (ptrs := Q16) trivial trivial trivial rfl rfl E16
theorem S16 : ConS Tryz.prog 16 C16 := B16.call rfl
/-! impl.isOf: function 31 -/
noncomputable def f_impl_isOf (x0 : Int) (x1 : Int) : Option (Bool) :=
  (f_impl_from x1 1 4).bind fun y246 =>
  bif y246 then
    (f_impl_from x0 0 (IntKind.wrap .i64 (x1 - (1 : Int)))).bind fun y247 =>
    some y247
  else
    some false
noncomputable def C31 : Con := ⟨[(.B, false, [(.int .i64)]), (.B, false, [(.int .i64)])], [(false, [.bool])], [(.int .i64), (.int .i64)], [.bool], fun (p : Int × Int) => f_impl_isOf p.1 p.2⟩
noncomputable abbrev K31 : Cons := [(16, C16)]
noncomputable abbrev L31 : List (Nat × Loops) := []
abbrev Q31 : List (Nat × List (Int × Nat) × Nat) := []
noncomputable abbrev X31 : Nat → Ctx := ctxOf tb K31 L31 Q31
theorem E31 : ∀ x, funRun fs X31 6 31 C31 x = C31.fn x := fun x => by kernel_rfl
theorem B31 : ConB Tryz.prog 31 C31 := ConB.make FS MIX TY (cons := K31) (L := L31) (ptrs := Q31) ⟨S16, trivial⟩ trivial trivial rfl rfl E31
theorem S31 : ConS Tryz.prog 31 C31 := B31.call rfl
/-! impl.isWord: function 85 -/
noncomputable def f_impl_isWord (x0 : Int) : Option (Bool) :=
  (f_impl_from x0 0 65535).bind fun y248 =>
  some y248
noncomputable def C85 : Con := ⟨[(.B, false, [(.int .i64)])], [(false, [.bool])], [(.int .i64)], [.bool], fun (p : Int) => f_impl_isWord p⟩
noncomputable abbrev K85 : Cons := [(16, C16)]
noncomputable abbrev L85 : List (Nat × Loops) := []
abbrev Q85 : List (Nat × List (Int × Nat) × Nat) := []
noncomputable abbrev X85 : Nat → Ctx := ctxOf tb K85 L85 Q85
theorem E85 : ∀ x, funRun fs X85 6 85 C85 x = C85.fn x := fun x => by kernel_rfl
theorem B85 : ConB Tryz.prog 85 C85 := ConB.make FS MIX TY (cons := K85) (L := L85) (ptrs := Q85) ⟨S16, trivial⟩ trivial trivial rfl rfl E85
theorem S85 : ConS Tryz.prog 85 C85 := B85.call rfl
/-! impl.wordsOk$1: function 84 -/
noncomputable def f_impl_wordsOk_1 (x0 : Int) : Option (Bool) :=
  (f_impl_isWord x0).bind fun y249 =>
  some (!y249)
noncomputable def C84 : Con := ⟨[(.B, false, [(.int .i64)])], [(false, [.bool])], [(.int .i64)], [.bool], fun (p : Int) => f_impl_wordsOk_1 p⟩
noncomputable abbrev K84 : Cons := [(85, C85)]
noncomputable abbrev L84 : List (Nat × Loops) := []
abbrev Q84 : List (Nat × List (Int × Nat) × Nat) := []
noncomputable abbrev X84 : Nat → Ctx := ctxOf tb K84 L84 Q84
theorem E84 : ∀ x, funRun fs X84 6 84 C84 x = C84.fn x := fun x => by kernel_rfl
theorem B84 : ConB Tryz.prog 84 C84 := ConB.make FS MIX TY (cons := K84) (L := L84) (ptrs := Q84) ⟨S85, trivial⟩ trivial trivial rfl rfl E84
theorem S84 : ConS Tryz.prog 84 C84 := B84.call rfl
/-! impl.wordsOk: function 60 -/
noncomputable def f_impl_wordsOk.l0 : Nat → (List Int) → Int → Int → Int → Option ((Int) ⊕ (Int))
  | 0, _, _, _, _ => none
  | n + 1, p250, p251, p252, p253 =>
    bif (decide (p253 < p252)) then
      bif ((decide ((0 : Int) ≤ p253)) && (decide (p253 < (p250.length : Int)))) then
      (f_impl_wordsOk_1 (p250.getD p253.toNat 0)).bind fun y254 =>
      bif y254 then
        some (.inl p253)
      else
        f_impl_wordsOk.l0 n p250 p251 p252 (IntKind.wrap .i64 (p253 + (1 : Int)))
      else none
    else
      some (.inr p251)
noncomputable def f_impl_wordsOk (x0 : List Int) (x1 : Int) : Option (Bool) :=
  bif (decide ((x0.length : Int) = x1)) then
    (f_impl_wordsOk.l0 N x0 0 (x0.length : Int) 0).bind fun r255 =>
    cs r255 (fun a256 =>
      some (!(decide ((0 : Int) ≤ a256)))) (fun b257 =>
      some true)
  else
    some false
noncomputable def C60 : Con := ⟨[(.B, false, [(.sl R0)]), (.B, false, [(.int .i64)])], [(false, [.bool])], [(.sl R0), (.int .i64)], [.bool], fun (p : List Int × Int) => f_impl_wordsOk p.1 p.2⟩
noncomputable def f_impl_wordsOk.l0.c : LoopCon := ⟨1274, 4, [0, 1, 4, 7, 8], ⟨[(0, .bor none R0 []), (1, .func 84 []), (4, .int .i64 0), (7, .int .i64 0), (8, .int .i64 0)], [], 1274⟩, [(.sl R0), (.int .i64), (.int .i64), (.int .i64)], [⟨.ret, [4], ⟨[(4, .int .i64 0)], [], 1274⟩, [(.int .i64)]⟩, ⟨.exit 0, [4], ⟨[(4, .int .i64 0)], [], 1274⟩, [(.int .i64)]⟩], fun (p : List Int × Int × Int × Int) => f_impl_wordsOk.l0 N p.1 p.2.1 p.2.2.1 p.2.2.2⟩
noncomputable abbrev K60 : Cons := [(84, C84)]
noncomputable abbrev L60 : List (Nat × Loops) := [(100, [(2, f_impl_wordsOk.l0.c)])]
abbrev Q60 : List (Nat × List (Int × Nat) × Nat) := []
noncomputable abbrev X60 : Nat → Ctx := ctxOf tb K60 L60 Q60
theorem f_impl_wordsOk.l0.ok : ∀ n p, (fun (p : List Int × Int × Int × Int) => f_impl_wordsOk.l0 n p.1 p.2.1 p.2.2.1 p.2.2.2) p = iterD (roundOf fs X60 4 100 2 true f_impl_wordsOk.l0.c) n p :=
  iter_of (l := fun n => fun (p : List Int × Int × Int × Int) => f_impl_wordsOk.l0 n p.1 p.2.1 p.2.2.1 p.2.2.2) (fun _ => rfl) (fun n p => by kernel_rfl)
theorem E60 : ∀ x, funRun fs X60 6 60 C60 x = C60.fn x := fun x => by kernel_rfl
theorem B60 : ConB Tryz.prog 60 C60 := ConB.make FS MIX TY (cons := K60) (L := L60) (ptrs := Q60) ⟨S84, trivial⟩ trivial ⟨⟨⟨N, fun p => f_impl_wordsOk.l0.ok N p⟩, trivial⟩, trivial⟩ rfl rfl E60
theorem S60 : ConS Tryz.prog 60 C60 := B60.call rfl
/-! impl.FrameOk: function 34 -/
noncomputable def f_impl_FrameOk (x0 : Int) (x1 : List Int) (x2 : Bool) : Option (Bool) :=
  bif (decide (x0 = (0 : Int))) then
    some (decide ((x1.length : Int) = (0 : Int)))
  else
    bif (decide (x0 = (1 : Int))) then
      (f_impl_wordsOk x1 4).bind fun y258 =>
      some y258
    else
      bif (decide (x0 = (2 : Int))) then
        (f_impl_wordsOk x1 4).bind fun y259 =>
        some y259
      else
        some false
noncomputable def C34 : Con := ⟨[(.B, true, [(.int .i64), (.sl R0), .bool])], [(false, [.bool])], [(.int .i64), (.sl R0), .bool], [.bool], fun (p : Int × List Int × Bool) => f_impl_FrameOk p.1 p.2.1 p.2.2⟩
noncomputable abbrev K34 : Cons := [(60, C60)]
noncomputable abbrev L34 : List (Nat × Loops) := []
abbrev Q34 : List (Nat × List (Int × Nat) × Nat) := []
noncomputable abbrev X34 : Nat → Ctx := ctxOf tb K34 L34 Q34
theorem E34 : ∀ x, funRun fs X34 6 34 C34 x = C34.fn x := fun x => by kernel_rfl
theorem B34 : ConB Tryz.prog 34 C34 := ConB.make FS MIX TY (cons := K34) (L := L34) (ptrs := Q34) ⟨S60, trivial⟩ trivial trivial rfl rfl E34
theorem S34 : ConS Tryz.prog 34 C34 := B34.call rfl
/-! impl.NodeOk$1: function 33 -/
noncomputable def f_impl_NodeOk_1 (x0 : Int) (x1 : List Int) (x2 : Bool) : Option (Bool) :=
  (f_impl_FrameOk x0 x1 x2).bind fun y260 =>
  some (!y260)
noncomputable def C33 : Con := ⟨[(.B, true, [(.int .i64), (.sl R0), .bool])], [(false, [.bool])], [(.int .i64), (.sl R0), .bool], [.bool], fun (p : Int × List Int × Bool) => f_impl_NodeOk_1 p.1 p.2.1 p.2.2⟩
noncomputable abbrev K33 : Cons := [(34, C34)]
noncomputable abbrev L33 : List (Nat × Loops) := []
abbrev Q33 : List (Nat × List (Int × Nat) × Nat) := []
noncomputable abbrev X33 : Nat → Ctx := ctxOf tb K33 L33 Q33
theorem E33 : ∀ x, funRun fs X33 6 33 C33 x = C33.fn x := fun x => by kernel_rfl
theorem B33 : ConB Tryz.prog 33 C33 := ConB.make FS MIX TY (cons := K33) (L := L33) (ptrs := Q33) ⟨S34, trivial⟩ trivial trivial rfl rfl E33
theorem S33 : ConS Tryz.prog 33 C33 := B33.call rfl
/-! impl.HomeOk$1: function 63 -/
noncomputable def f_impl_HomeOk_1 (x0 : Int) (x1 : Bool) (x2 : Int) : Option (Bool) :=
  (f_impl_isOf x0 x2).bind fun y261 =>
  some (!y261)
noncomputable def C63 : Con := ⟨[(.B, true, [(.int .i64), .bool]), (.Q, false, [(.int .i64)])], [(false, [.bool])], [(.int .i64), .bool, (.int .i64)], [.bool], fun (p : Int × Bool × Int) => f_impl_HomeOk_1 p.1 p.2.1 p.2.2⟩
noncomputable abbrev K63 : Cons := [(31, C31)]
noncomputable abbrev L63 : List (Nat × Loops) := []
abbrev Q63 : List (Nat × List (Int × Nat) × Nat) := []
noncomputable abbrev X63 : Nat → Ctx := ctxOf tb K63 L63 Q63
theorem E63 : ∀ x, funG fs X63 6 63 C63 x = C63.fn x := fun x => by kernel_rfl
theorem B63 : ConG Tryz.prog 63 C63 := ConG.make FS MIX TY (cons := K63) (L := L63) (ptrs := Q63) ⟨S31, trivial⟩ trivial trivial rfl (by kernel_rfl) E63
theorem S63 : ConS Tryz.prog 63 C63 := B63.call (by kernel_rfl)
/-! impl.HomeOk: function 37 -/
noncomputable def f_impl_HomeOk.l0 : Nat → (List (Int × Bool)) → Int → Int → Int → (List Int) → Int → (List Bool) → Bool → Int → Bool → Int → (List (Int × Bool)) → Int → Option ((Int × List Int × Int × List Bool × Bool × Int × Bool × Int × (List (Int × Bool)) × Int) ⊕ (Int × List Int × Int × List Bool × Bool × Int × Bool × Int × (List (Int × Bool)) × Int))
  | 0, _, _, _, _, _, _, _, _, _, _, _, _, _ => none
  | n + 1, p267, p268, p269, p270, p271, p272, p273, p274, p275, p276, p277, p278, p279 =>
    bif (decide (p270 < p269)) then
      bif ((decide ((0 : Int) ≤ p270)) && (decide (p270 < (p267.length : Int)))) then
      (f_impl_HomeOk_1 ((p267.getD p270.toNat (0, false)).1) ((p267.getD p270.toNat (0, false)).2) p279).bind fun y280 =>
      bif y280 then
        some (.inl (p270, p271, p272, p273, p274, p275, p276, p277, p278, p279))
      else
        f_impl_HomeOk.l0 n p267 p268 p269 (IntKind.wrap .i64 (p270 + (1 : Int))) p271 p272 p273 p274 p275 p276 p277 p278 p279
      else none
    else
      some (.inr (p268, p271, p272, p273, p274, p275, p276, p277, p278, p279))
noncomputable def f_impl_HomeOk (x0 : List Int) (x1 : Int) (x2 : List Bool) (x3 : Bool) (x4 : Int) (x5 : Bool) (x6 : Int) (x7 : List (Int × Bool)) (x8 : Int) : Option (Bool) :=
  (f_impl_from x8 1 4).bind fun y262 =>
  bif y262 then
    (f_impl_wordsOk x0 4).bind fun y263 =>
    bif y263 then
      (f_impl_from x1 (-1) (IntKind.wrap .i64 (x8 - (1 : Int)))).bind fun y264 =>
      bif y264 then
        bif (decide ((x2.length : Int) = x8)) then
          (f_impl_isOf x4 x8).bind fun y265 =>
          bif y265 then
            (f_impl_from x6 0 x8).bind fun y266 =>
            bif y266 then
              bif (decide ((x7.length : Int) ≤ (12 : Int))) then
                (f_impl_HomeOk.l0 N x7 0 (x7.length : Int) 0 x0 x1 x2 x3 x4 x5 x6 x7 x8).bind fun r281 =>
                cs r281 (fun a282 =>
                  some (!(decide ((0 : Int) ≤ a282.1)))) (fun b283 =>
                  some true)
              else
                some false
            else
              some false
          else
            some false
        else
          some false
      else
        some false
    else
      some false
  else
    some false
noncomputable def C37 : Con := ⟨[(.B, true, [(.sl R0), (.int .i64), (.sl R2), .bool, (.int .i64), .bool, (.int .i64), (.sl R3)]), (.B, false, [(.int .i64)])], [(false, [.bool])], [(.sl R0), (.int .i64), (.sl R2), .bool, (.int .i64), .bool, (.int .i64), (.sl R3), (.int .i64)], [.bool], fun (p : List Int × Int × List Bool × Bool × Int × Bool × Int × (List (Int × Bool)) × Int) => f_impl_HomeOk p.1 p.2.1 p.2.2.1 p.2.2.2.1 p.2.2.2.2.1 p.2.2.2.2.2.1 p.2.2.2.2.2.2.1 p.2.2.2.2.2.2.2.1 p.2.2.2.2.2.2.2.2⟩
noncomputable def f_impl_HomeOk.l0.c : LoopCon := ⟨1921, 4, [0, 1, 4, 7, 8], ⟨[(0, .bor none R3 []), (1, .func 63 [.ptr 1025 0]), (4, .int .i64 0), (7, .int .i64 0), (8, .int .i64 0)], [(1009, .box [.bor (some 0) R0 [], .int .i64 0, .bor (some 2) R2 [], .bool false, .int .i64 0, .bool false, .int .i64 0, .bor (some 7) R3 []]), (1025, .box [.int .i64 0])], 1921⟩, [(.sl R3), (.int .i64), (.int .i64), (.int .i64), (.sl R0), (.int .i64), (.sl R2), .bool, (.int .i64), .bool, (.int .i64), (.sl R3), (.int .i64)], [⟨.ret, [4], ⟨[(4, .int .i64 0)], [(1009, .box [.bor (some 0) R0 [], .int .i64 0, .bor (some 2) R2 [], .bool false, .int .i64 0, .bool false, .int .i64 0, .bor (some 7) R3 []]), (1025, .box [.int .i64 0])], 1921⟩, [(.int .i64), (.sl R0), (.int .i64), (.sl R2), .bool, (.int .i64), .bool, (.int .i64), (.sl R3), (.int .i64)]⟩, ⟨.exit 0, [4], ⟨[(4, .int .i64 0)], [(1009, .box [.bor (some 0) R0 [], .int .i64 0, .bor (some 2) R2 [], .bool false, .int .i64 0, .bool false, .int .i64 0, .bor (some 7) R3 []]), (1025, .box [.int .i64 0])], 1921⟩, [(.int .i64), (.sl R0), (.int .i64), (.sl R2), .bool, (.int .i64), .bool, (.int .i64), (.sl R3), (.int .i64)]⟩], fun (p : (List (Int × Bool)) × Int × Int × Int × List Int × Int × List Bool × Bool × Int × Bool × Int × (List (Int × Bool)) × Int) => f_impl_HomeOk.l0 N p.1 p.2.1 p.2.2.1 p.2.2.2.1 p.2.2.2.2.1 p.2.2.2.2.2.1 p.2.2.2.2.2.2.1 p.2.2.2.2.2.2.2.1 p.2.2.2.2.2.2.2.2.1 p.2.2.2.2.2.2.2.2.2.1 p.2.2.2.2.2.2.2.2.2.2.1 p.2.2.2.2.2.2.2.2.2.2.2.1 p.2.2.2.2.2.2.2.2.2.2.2.2⟩
noncomputable abbrev K37 : Cons := [(16, C16), (31, C31), (60, C60), (63, C63)]
noncomputable abbrev L37 : List (Nat × Loops) := [(86, [(2, f_impl_HomeOk.l0.c)])]
abbrev Q37 : List (Nat × List (Int × Nat) × Nat) := []
noncomputable abbrev X37 : Nat → Ctx := ctxOf tb K37 L37 Q37
theorem f_impl_HomeOk.l0.ok : ∀ n p, (fun (p : (List (Int × Bool)) × Int × Int × Int × List Int × Int × List Bool × Bool × Int × Bool × Int × (List (Int × Bool)) × Int) => f_impl_HomeOk.l0 n p.1 p.2.1 p.2.2.1 p.2.2.2.1 p.2.2.2.2.1 p.2.2.2.2.2.1 p.2.2.2.2.2.2.1 p.2.2.2.2.2.2.2.1 p.2.2.2.2.2.2.2.2.1 p.2.2.2.2.2.2.2.2.2.1 p.2.2.2.2.2.2.2.2.2.2.1 p.2.2.2.2.2.2.2.2.2.2.2.1 p.2.2.2.2.2.2.2.2.2.2.2.2) p = iterD (roundOf fs X37 4 86 2 true f_impl_HomeOk.l0.c) n p :=
  iter_of (l := fun n => fun (p : (List (Int × Bool)) × Int × Int × Int × List Int × Int × List Bool × Bool × Int × Bool × Int × (List (Int × Bool)) × Int) => f_impl_HomeOk.l0 n p.1 p.2.1 p.2.2.1 p.2.2.2.1 p.2.2.2.2.1 p.2.2.2.2.2.1 p.2.2.2.2.2.2.1 p.2.2.2.2.2.2.2.1 p.2.2.2.2.2.2.2.2.1 p.2.2.2.2.2.2.2.2.2.1 p.2.2.2.2.2.2.2.2.2.2.1 p.2.2.2.2.2.2.2.2.2.2.2.1 p.2.2.2.2.2.2.2.2.2.2.2.2) (fun _ => rfl) (fun n p => by kernel_rfl)
theorem E37 : ∀ x, funRun fs X37 6 37 C37 x = C37.fn x := fun x => by kernel_rfl
theorem B37 : ConB Tryz.prog 37 C37 := ConB.make FS MIX TY (cons := K37) (L := L37) (ptrs := Q37) ⟨S16, S31, S60, S63, trivial⟩ trivial ⟨⟨⟨N, fun p => f_impl_HomeOk.l0.ok N p⟩, trivial⟩, trivial⟩ rfl rfl E37
theorem S37 : ConS Tryz.prog 37 C37 := B37.call rfl
/-! impl.NodeOk$2: function 36 -/
noncomputable def f_impl_NodeOk_2 (x0 : List Int) (x1 : Int) (x2 : List Bool) (x3 : Bool) (x4 : Int) (x5 : Bool) (x6 : Int) (x7 : List (Int × Bool)) (x8 : Int) : Option (Bool) :=
  (f_impl_HomeOk x0 x1 x2 x3 x4 x5 x6 x7 x8).bind fun y284 =>
  some (!y284)
noncomputable def C36 : Con := ⟨[(.B, true, [(.sl R0), (.int .i64), (.sl R2), .bool, (.int .i64), .bool, (.int .i64), (.sl R3)]), (.Q, false, [(.int .i64)])], [(false, [.bool])], [(.sl R0), (.int .i64), (.sl R2), .bool, (.int .i64), .bool, (.int .i64), (.sl R3), (.int .i64)], [.bool], fun (p : List Int × Int × List Bool × Bool × Int × Bool × Int × (List (Int × Bool)) × Int) => f_impl_NodeOk_2 p.1 p.2.1 p.2.2.1 p.2.2.2.1 p.2.2.2.2.1 p.2.2.2.2.2.1 p.2.2.2.2.2.2.1 p.2.2.2.2.2.2.2.1 p.2.2.2.2.2.2.2.2⟩
noncomputable abbrev K36 : Cons := [(37, C37)]
noncomputable abbrev L36 : List (Nat × Loops) := []
abbrev Q36 : List (Nat × List (Int × Nat) × Nat) := []
noncomputable abbrev X36 : Nat → Ctx := ctxOf tb K36 L36 Q36
theorem E36 : ∀ x, funG fs X36 6 36 C36 x = C36.fn x := fun x => by kernel_rfl
theorem B36 : ConG Tryz.prog 36 C36 := ConG.make FS MIX TY (cons := K36) (L := L36) (ptrs := Q36) ⟨S37, trivial⟩ trivial trivial rfl (by kernel_rfl) E36
theorem S36 : ConS Tryz.prog 36 C36 := B36.call (by kernel_rfl)
/-! impl.isSeq: function 43 -/
noncomputable def f_impl_isSeq (x0 : Int) : Option (Bool) :=
  (f_impl_from x0 0 100000).bind fun y285 =>
  some y285
noncomputable def C43 : Con := ⟨[(.B, false, [(.int .i64)])], [(false, [.bool])], [(.int .i64)], [.bool], fun (p : Int) => f_impl_isSeq p⟩
noncomputable abbrev K43 : Cons := [(16, C16)]
noncomputable abbrev L43 : List (Nat × Loops) := []
abbrev Q43 : List (Nat × List (Int × Nat) × Nat) := []
noncomputable abbrev X43 : Nat → Ctx := ctxOf tb K43 L43 Q43
theorem E43 : ∀ x, funRun fs X43 6 43 C43 x = C43.fn x := fun x => by kernel_rfl
theorem B43 : ConB Tryz.prog 43 C43 := ConB.make FS MIX TY (cons := K43) (L := L43) (ptrs := Q43) ⟨S16, trivial⟩ trivial trivial rfl rfl E43
theorem S43 : ConS Tryz.prog 43 C43 := B43.call rfl
/-! impl.isPage: function 68 -/
noncomputable def f_impl_isPage (x0 : Int) : Option (Bool) :=
  (f_impl_from x0 0 5).bind fun y286 =>
  some y286
noncomputable def C68 : Con := ⟨[(.B, false, [(.int .i64)])], [(false, [.bool])], [(.int .i64)], [.bool], fun (p : Int) => f_impl_isPage p⟩
noncomputable abbrev K68 : Cons := [(16, C16)]
noncomputable abbrev L68 : List (Nat × Loops) := []
abbrev Q68 : List (Nat × List (Int × Nat) × Nat) := []
noncomputable abbrev X68 : Nat → Ctx := ctxOf tb K68 L68 Q68
theorem E68 : ∀ x, funRun fs X68 6 68 C68 x = C68.fn x := fun x => by kernel_rfl
theorem B68 : ConB Tryz.prog 68 C68 := ConB.make FS MIX TY (cons := K68) (L := L68) (ptrs := Q68) ⟨S16, trivial⟩ trivial trivial rfl rfl E68
theorem S68 : ConS Tryz.prog 68 C68 := B68.call rfl
/-! impl.MsgOk: function 45 -/
noncomputable def f_impl_MsgOk (x0 : Int) (x1 : Int) (x2 : Bool) (x3 : List Int) : Option (Bool) :=
  (f_impl_from x0 1 7).bind fun y287 =>
  bif (!y287) then
    some false
  else
    (f_impl_isPage x1).bind fun y288 =>
    bif (!y288) then
      some false
    else
      bif x2 then
        bif (!(decide (x0 = (3 : Int)))) then
          bif (!(decide (x0 = (6 : Int)))) then
            some false
          else
            bif (decide (x0 = (3 : Int))) then
              (f_impl_wordsOk x3 4).bind fun y289 =>
              some y289
            else
              bif (decide (x0 = (7 : Int))) then
                (f_impl_wordsOk x3 4).bind fun y290 =>
                some y290
              else
                some (decide ((x3.length : Int) = (0 : Int)))
        else
          bif (decide (x0 = (3 : Int))) then
            (f_impl_wordsOk x3 4).bind fun y291 =>
            some y291
          else
            bif (decide (x0 = (7 : Int))) then
              (f_impl_wordsOk x3 4).bind fun y292 =>
              some y292
            else
              some (decide ((x3.length : Int) = (0 : Int)))
      else
        bif (decide (x0 = (3 : Int))) then
          (f_impl_wordsOk x3 4).bind fun y293 =>
          some y293
        else
          bif (decide (x0 = (7 : Int))) then
            (f_impl_wordsOk x3 4).bind fun y294 =>
            some y294
          else
            some (decide ((x3.length : Int) = (0 : Int)))
noncomputable def C45 : Con := ⟨[(.B, true, [(.int .i64), (.int .i64), .bool, (.sl R0)])], [(false, [.bool])], [(.int .i64), (.int .i64), .bool, (.sl R0)], [.bool], fun (p : Int × Int × Bool × List Int) => f_impl_MsgOk p.1 p.2.1 p.2.2.1 p.2.2.2⟩
noncomputable abbrev K45 : Cons := [(16, C16), (60, C60), (68, C68)]
noncomputable abbrev L45 : List (Nat × Loops) := []
abbrev Q45 : List (Nat × List (Int × Nat) × Nat) := []
noncomputable abbrev X45 : Nat → Ctx := ctxOf tb K45 L45 Q45
theorem E45 : ∀ x, funRun fs X45 6 45 C45 x = C45.fn x := fun x => by kernel_rfl
theorem B45 : ConB Tryz.prog 45 C45 := ConB.make FS MIX TY (cons := K45) (L := L45) (ptrs := Q45) ⟨S16, S60, S68, trivial⟩ trivial trivial rfl rfl E45
theorem S45 : ConS Tryz.prog 45 C45 := B45.call rfl
/-! impl.SenderOk$1: function 66 -/
noncomputable def f_impl_SenderOk_1 (x0 : Int) (x1 : Int) (x2 : Bool) (x3 : List Int) : Option (Bool) :=
  (f_impl_MsgOk x0 x1 x2 x3).bind fun y295 =>
  some (!y295)
noncomputable def C66 : Con := ⟨[(.B, true, [(.int .i64), (.int .i64), .bool, (.sl R0)])], [(false, [.bool])], [(.int .i64), (.int .i64), .bool, (.sl R0)], [.bool], fun (p : Int × Int × Bool × List Int) => f_impl_SenderOk_1 p.1 p.2.1 p.2.2.1 p.2.2.2⟩
noncomputable abbrev K66 : Cons := [(45, C45)]
noncomputable abbrev L66 : List (Nat × Loops) := []
abbrev Q66 : List (Nat × List (Int × Nat) × Nat) := []
noncomputable abbrev X66 : Nat → Ctx := ctxOf tb K66 L66 Q66
theorem E66 : ∀ x, funRun fs X66 6 66 C66 x = C66.fn x := fun x => by kernel_rfl
theorem B66 : ConB Tryz.prog 66 C66 := ConB.make FS MIX TY (cons := K66) (L := L66) (ptrs := Q66) ⟨S45, trivial⟩ trivial trivial rfl rfl E66
theorem S66 : ConS Tryz.prog 66 C66 := B66.call rfl
/-! impl.SenderOk: function 40 -/
noncomputable def f_impl_SenderOk.l0 : Nat → (List (Int × Int × Bool × List Int)) → Int → Int → Int → Int → (List (Int × Int × Bool × List Int)) → Option ((Int × Int × (List (Int × Int × Bool × List Int))) ⊕ (Int × Int × (List (Int × Int × Bool × List Int))))
  | 0, _, _, _, _, _, _ => none
  | n + 1, p297, p298, p299, p300, p301, p302 =>
    bif (decide (p300 < p299)) then
      bif ((decide ((0 : Int) ≤ p300)) && (decide (p300 < (p297.length : Int)))) then
      (f_impl_SenderOk_1 ((p297.getD p300.toNat (0, 0, false, [])).1) ((p297.getD p300.toNat (0, 0, false, [])).2.1) ((p297.getD p300.toNat (0, 0, false, [])).2.2.1) ((p297.getD p300.toNat (0, 0, false, [])).2.2.2)).bind fun y303 =>
      bif y303 then
        some (.inl (p300, p301, p302))
      else
        f_impl_SenderOk.l0 n p297 p298 p299 (IntKind.wrap .i64 (p300 + (1 : Int))) p301 p302
      else none
    else
      some (.inr (p298, p301, p302))
noncomputable def f_impl_SenderOk (x0 : Int) (x1 : List (Int × Int × Bool × List Int)) : Option (Bool) :=
  (f_impl_isSeq x0).bind fun y296 =>
  bif y296 then
    bif (decide ((x1.length : Int) ≤ (30 : Int))) then
      bif (decide ((IntKind.wrap .i64 (x0 + (x1.length : Int))) ≤ (100000 : Int))) then
        (f_impl_SenderOk.l0 N x1 0 (x1.length : Int) 0 x0 x1).bind fun r304 =>
        cs r304 (fun a305 =>
          some (!(decide ((0 : Int) ≤ a305.1)))) (fun b306 =>
          some true)
      else
        some false
    else
      some false
  else
    some false
noncomputable def C40 : Con := ⟨[(.B, true, [(.int .i64), (.sl R5)])], [(false, [.bool])], [(.int .i64), (.sl R5)], [.bool], fun (p : Int × (List (Int × Int × Bool × List Int))) => f_impl_SenderOk p.1 p.2⟩
noncomputable def f_impl_SenderOk.l0.c : LoopCon := ⟨1530, 4, [0, 1, 4, 7, 8], ⟨[(0, .bor none R5 []), (1, .func 66 []), (4, .int .i64 0), (7, .int .i64 0), (8, .int .i64 0)], [(1002, .box [.int .i64 0, .bor (some 1) R5 []])], 1530⟩, [(.sl R5), (.int .i64), (.int .i64), (.int .i64), (.int .i64), (.sl R5)], [⟨.ret, [4], ⟨[(4, .int .i64 0)], [(1002, .box [.int .i64 0, .bor (some 1) R5 []])], 1530⟩, [(.int .i64), (.int .i64), (.sl R5)]⟩, ⟨.exit 0, [4], ⟨[(4, .int .i64 0)], [(1002, .box [.int .i64 0, .bor (some 1) R5 []])], 1530⟩, [(.int .i64), (.int .i64), (.sl R5)]⟩], fun (p : (List (Int × Int × Bool × List Int)) × Int × Int × Int × Int × (List (Int × Int × Bool × List Int))) => f_impl_SenderOk.l0 N p.1 p.2.1 p.2.2.1 p.2.2.2.1 p.2.2.2.2.1 p.2.2.2.2.2⟩
noncomputable abbrev K40 : Cons := [(43, C43), (66, C66)]
noncomputable abbrev L40 : List (Nat × Loops) := [(87, [(2, f_impl_SenderOk.l0.c)])]
abbrev Q40 : List (Nat × List (Int × Nat) × Nat) := []
noncomputable abbrev X40 : Nat → Ctx := ctxOf tb K40 L40 Q40
theorem f_impl_SenderOk.l0.ok : ∀ n p, (fun (p : (List (Int × Int × Bool × List Int)) × Int × Int × Int × Int × (List (Int × Int × Bool × List Int))) => f_impl_SenderOk.l0 n p.1 p.2.1 p.2.2.1 p.2.2.2.1 p.2.2.2.2.1 p.2.2.2.2.2) p = iterD (roundOf fs X40 4 87 2 true f_impl_SenderOk.l0.c) n p :=
  iter_of (l := fun n => fun (p : (List (Int × Int × Bool × List Int)) × Int × Int × Int × Int × (List (Int × Int × Bool × List Int))) => f_impl_SenderOk.l0 n p.1 p.2.1 p.2.2.1 p.2.2.2.1 p.2.2.2.2.1 p.2.2.2.2.2) (fun _ => rfl) (fun n p => by kernel_rfl)
theorem E40 : ∀ x, funRun fs X40 6 40 C40 x = C40.fn x := fun x => by kernel_rfl
theorem B40 : ConB Tryz.prog 40 C40 := ConB.make FS MIX TY (cons := K40) (L := L40) (ptrs := Q40) ⟨S43, S66, trivial⟩ trivial ⟨⟨⟨N, fun p => f_impl_SenderOk.l0.ok N p⟩, trivial⟩, trivial⟩ rfl rfl E40
theorem S40 : ConS Tryz.prog 40 C40 := B40.call rfl
/-! impl.NodeOk$3: function 39 -/
noncomputable def f_impl_NodeOk_3 (x0 : Int) (x1 : List (Int × Int × Bool × List Int)) : Option (Bool) :=
  (f_impl_SenderOk x0 x1).bind fun y307 =>
  some (!y307)
noncomputable def C39 : Con := ⟨[(.B, true, [(.int .i64), (.sl R5)])], [(false, [.bool])], [(.int .i64), (.sl R5)], [.bool], fun (p : Int × (List (Int × Int × Bool × List Int))) => f_impl_NodeOk_3 p.1 p.2⟩
noncomputable abbrev K39 : Cons := [(40, C40)]
noncomputable abbrev L39 : List (Nat × Loops) := []
abbrev Q39 : List (Nat × List (Int × Nat) × Nat) := []
noncomputable abbrev X39 : Nat → Ctx := ctxOf tb K39 L39 Q39
theorem E39 : ∀ x, funRun fs X39 6 39 C39 x = C39.fn x := fun x => by kernel_rfl
theorem B39 : ConB Tryz.prog 39 C39 := ConB.make FS MIX TY (cons := K39) (L := L39) (ptrs := Q39) ⟨S40, trivial⟩ trivial trivial rfl rfl E39
theorem S39 : ConS Tryz.prog 39 C39 := B39.call rfl
/-! impl.NodeOk$4: function 42 -/
noncomputable def f_impl_NodeOk_4 (x0 : Int) : Option (Bool) :=
  (f_impl_isSeq x0).bind fun y308 =>
  some (!y308)
noncomputable def C42 : Con := ⟨[(.B, true, [(.int .i64)])], [(false, [.bool])], [(.int .i64)], [.bool], fun (p : Int) => f_impl_NodeOk_4 p⟩
noncomputable abbrev K42 : Cons := [(43, C43)]
noncomputable abbrev L42 : List (Nat × Loops) := []
abbrev Q42 : List (Nat × List (Int × Nat) × Nat) := []
noncomputable abbrev X42 : Nat → Ctx := ctxOf tb K42 L42 Q42
theorem E42 : ∀ x, funRun fs X42 6 42 C42 x = C42.fn x := fun x => by kernel_rfl
theorem B42 : ConB Tryz.prog 42 C42 := ConB.make FS MIX TY (cons := K42) (L := L42) (ptrs := Q42) ⟨S43, trivial⟩ trivial trivial rfl rfl E42
theorem S42 : ConS Tryz.prog 42 C42 := B42.call rfl
/-! impl.NodeOk: function 17 -/
noncomputable def f_impl_NodeOk.l9 : Nat → (List Int) → Int → Int → Int → Int → (List (Int × List Int × Bool)) → (List (List Int × Int × List Bool × Bool × Int × Bool × Int × (List (Int × Bool)))) → (List (Int × (List (Int × Int × Bool × List Int)))) → (List Int) → Int → Option ((Int × Int × (List (Int × List Int × Bool)) × (List (List Int × Int × List Bool × Bool × Int × Bool × Int × (List (Int × Bool)))) × (List (Int × (List (Int × Int × Bool × List Int)))) × List Int × Int) ⊕ (Int × Int × (List (Int × List Int × Bool)) × (List (List Int × Int × List Bool × Bool × Int × Bool × Int × (List (Int × Bool)))) × (List (Int × (List (Int × Int × Bool × List Int)))) × List Int × Int))
  | 0, _, _, _, _, _, _, _, _, _, _ => none
  | n + 1, p451, p452, p453, p454, p455, p456, p457, p458, p459, p460 =>
    bif (decide (p454 < p453)) then
      bif ((decide ((0 : Int) ≤ p454)) && (decide (p454 < (p451.length : Int)))) then
      (f_impl_NodeOk_4 (p451.getD p454.toNat 0)).bind fun y461 =>
      bif y461 then
        some (.inl (p454, p455, p456, p457, p458, p459, p460))
      else
        f_impl_NodeOk.l9 n p451 p452 p453 (IntKind.wrap .i64 (p454 + (1 : Int))) p455 p456 p457 p458 p459 p460
      else none
    else
      some (.inr (p452, p455, p456, p457, p458, p459, p460))
noncomputable def f_impl_NodeOk.l8 : Nat → (List (Int × (List (Int × Int × Bool × List Int)))) → Int → Int → Int → Int → (List (Int × List Int × Bool)) → (List (List Int × Int × List Bool × Bool × Int × Bool × Int × (List (Int × Bool)))) → (List (Int × (List (Int × Int × Bool × List Int)))) → (List Int) → Int → Option ((Int × Int × (List (Int × List Int × Bool)) × (List (List Int × Int × List Bool × Bool × Int × Bool × Int × (List (Int × Bool)))) × (List (Int × (List (Int × Int × Bool × List Int)))) × List Int × Int) ⊕ (Int × Int × (List (Int × List Int × Bool)) × (List (List Int × Int × List Bool × Bool × Int × Bool × Int × (List (Int × Bool)))) × (List (Int × (List (Int × Int × Bool × List Int)))) × List Int × Int))
  | 0, _, _, _, _, _, _, _, _, _, _ => none
  | n + 1, p434, p435, p436, p437, p438, p439, p440, p441, p442, p443 =>
    bif (decide (p437 < p436)) then
      bif ((decide ((0 : Int) ≤ p437)) && (decide (p437 < (p434.length : Int)))) then
      (f_impl_NodeOk_3 ((p434.getD p437.toNat (0, [])).1) ((p434.getD p437.toNat (0, [])).2)).bind fun y444 =>
      bif y444 then
        some (.inl (p437, p438, p439, p440, p441, p442, p443))
      else
        f_impl_NodeOk.l8 n p434 p435 p436 (IntKind.wrap .i64 (p437 + (1 : Int))) p438 p439 p440 p441 p442 p443
      else none
    else
      some (.inr (p435, p438, p439, p440, p441, p442, p443))
noncomputable def f_impl_NodeOk.l7 : Nat → (List (List Int × Int × List Bool × Bool × Int × Bool × Int × (List (Int × Bool)))) → Int → Int → Int → Int → (List (Int × List Int × Bool)) → (List (List Int × Int × List Bool × Bool × Int × Bool × Int × (List (Int × Bool)))) → (List (Int × (List (Int × Int × Bool × List Int)))) → (List Int) → Int → Option ((Int × Int × (List (Int × List Int × Bool)) × (List (List Int × Int × List Bool × Bool × Int × Bool × Int × (List (Int × Bool)))) × (List (Int × (List (Int × Int × Bool × List Int)))) × List Int × Int) ⊕ (Int × Int × (List (Int × List Int × Bool)) × (List (List Int × Int × List Bool × Bool × Int × Bool × Int × (List (Int × Bool)))) × (List (Int × (List (Int × Int × Bool × List Int)))) × List Int × Int))
  | 0, _, _, _, _, _, _, _, _, _, _ => none
  | n + 1, p411, p412, p413, p414, p415, p416, p417, p418, p419, p420 =>
    bif (decide (p414 < p413)) then
      bif ((decide ((0 : Int) ≤ p414)) && (decide (p414 < (p411.length : Int)))) then
      (f_impl_NodeOk_2 ((p411.getD p414.toNat ([], 0, [], false, 0, false, 0, [])).1) ((p411.getD p414.toNat ([], 0, [], false, 0, false, 0, [])).2.1) ((p411.getD p414.toNat ([], 0, [], false, 0, false, 0, [])).2.2.1) ((p411.getD p414.toNat ([], 0, [], false, 0, false, 0, [])).2.2.2.1) ((p411.getD p414.toNat ([], 0, [], false, 0, false, 0, [])).2.2.2.2.1) ((p411.getD p414.toNat ([], 0, [], false, 0, false, 0, [])).2.2.2.2.2.1) ((p411.getD p414.toNat ([], 0, [], false, 0, false, 0, [])).2.2.2.2.2.2.1) ((p411.getD p414.toNat ([], 0, [], false, 0, false, 0, [])).2.2.2.2.2.2.2) p420).bind fun y421 =>
      bif y421 then
        some (.inl (p414, p415, p416, p417, p418, p419, p420))
      else
        f_impl_NodeOk.l7 n p411 p412 p413 (IntKind.wrap .i64 (p414 + (1 : Int))) p415 p416 p417 p418 p419 p420
      else none
    else
      some (.inr (p412, p415, p416, p417, p418, p419, p420))
noncomputable def f_impl_NodeOk.l6 : Nat → (List Int) → Int → Int → Int → Int → (List (Int × List Int × Bool)) → (List (List Int × Int × List Bool × Bool × Int × Bool × Int × (List (Int × Bool)))) → (List (Int × (List (Int × Int × Bool × List Int)))) → (List Int) → Int → Option ((Int × Int × (List (Int × List Int × Bool)) × (List (List Int × Int × List Bool × Bool × Int × Bool × Int × (List (Int × Bool)))) × (List (Int × (List (Int × Int × Bool × List Int)))) × List Int × Int) ⊕ (Int × Int × (List (Int × List Int × Bool)) × (List (List Int × Int × List Bool × Bool × Int × Bool × Int × (List (Int × Bool)))) × (List (Int × (List (Int × Int × Bool × List Int)))) × List Int × Int))
  | 0, _, _, _, _, _, _, _, _, _, _ => none
  | n + 1, p397, p398, p399, p400, p401, p402, p403, p404, p405, p406 =>
    bif (decide (p400 < p399)) then
      bif ((decide ((0 : Int) ≤ p400)) && (decide (p400 < (p397.length : Int)))) then
      (f_impl_NodeOk_4 (p397.getD p400.toNat 0)).bind fun y407 =>
      bif y407 then
        some (.inl (p400, p401, p402, p403, p404, p405, p406))
      else
        f_impl_NodeOk.l6 n p397 p398 p399 (IntKind.wrap .i64 (p400 + (1 : Int))) p401 p402 p403 p404 p405 p406
      else none
    else
      some (.inr (p398, p401, p402, p403, p404, p405, p406))
noncomputable def f_impl_NodeOk.l5 : Nat → (List (Int × (List (Int × Int × Bool × List Int)))) → Int → Int → Int → Int → (List (Int × List Int × Bool)) → (List (List Int × Int × List Bool × Bool × Int × Bool × Int × (List (Int × Bool)))) → (List (Int × (List (Int × Int × Bool × List Int)))) → (List Int) → Int → Option ((Int × Int × (List (Int × List Int × Bool)) × (List (List Int × Int × List Bool × Bool × Int × Bool × Int × (List (Int × Bool)))) × (List (Int × (List (Int × Int × Bool × List Int)))) × List Int × Int) ⊕ (Int × Int × (List (Int × List Int × Bool)) × (List (List Int × Int × List Bool × Bool × Int × Bool × Int × (List (Int × Bool)))) × (List (Int × (List (Int × Int × Bool × List Int)))) × List Int × Int))
  | 0, _, _, _, _, _, _, _, _, _, _ => none
  | n + 1, p380, p381, p382, p383, p384, p385, p386, p387, p388, p389 =>
    bif (decide (p383 < p382)) then
      bif ((decide ((0 : Int) ≤ p383)) && (decide (p383 < (p380.length : Int)))) then
      (f_impl_NodeOk_3 ((p380.getD p383.toNat (0, [])).1) ((p380.getD p383.toNat (0, [])).2)).bind fun y390 =>
      bif y390 then
        some (.inl (p383, p384, p385, p386, p387, p388, p389))
      else
        f_impl_NodeOk.l5 n p380 p381 p382 (IntKind.wrap .i64 (p383 + (1 : Int))) p384 p385 p386 p387 p388 p389
      else none
    else
      some (.inr (p381, p384, p385, p386, p387, p388, p389))
noncomputable def f_impl_NodeOk.l4 : Nat → (List Int) → Int → Int → Int → Int → (List (Int × List Int × Bool)) → (List (List Int × Int × List Bool × Bool × Int × Bool × Int × (List (Int × Bool)))) → (List (Int × (List (Int × Int × Bool × List Int)))) → (List Int) → Int → Option ((Int × Int × (List (Int × List Int × Bool)) × (List (List Int × Int × List Bool × Bool × Int × Bool × Int × (List (Int × Bool)))) × (List (Int × (List (Int × Int × Bool × List Int)))) × List Int × Int) ⊕ (Int × Int × (List (Int × List Int × Bool)) × (List (List Int × Int × List Bool × Bool × Int × Bool × Int × (List (Int × Bool)))) × (List (Int × (List (Int × Int × Bool × List Int)))) × List Int × Int))
  | 0, _, _, _, _, _, _, _, _, _, _ => none
  | n + 1, p366, p367, p368, p369, p370, p371, p372, p373, p374, p375 =>
    bif (decide (p369 < p368)) then
      bif ((decide ((0 : Int) ≤ p369)) && (decide (p369 < (p366.length : Int)))) then
      (f_impl_NodeOk_4 (p366.getD p369.toNat 0)).bind fun y376 =>
      bif y376 then
        some (.inl (p369, p370, p371, p372, p373, p374, p375))
      else
        f_impl_NodeOk.l4 n p366 p367 p368 (IntKind.wrap .i64 (p369 + (1 : Int))) p370 p371 p372 p373 p374 p375
      else none
    else
      some (.inr (p367, p370, p371, p372, p373, p374, p375))
noncomputable def f_impl_NodeOk.l3 : Nat → (List Int) → Int → Int → Int → Int → (List (Int × List Int × Bool)) → (List (List Int × Int × List Bool × Bool × Int × Bool × Int × (List (Int × Bool)))) → (List (Int × (List (Int × Int × Bool × List Int)))) → (List Int) → Int → Option ((Int × Int × (List (Int × List Int × Bool)) × (List (List Int × Int × List Bool × Bool × Int × Bool × Int × (List (Int × Bool)))) × (List (Int × (List (Int × Int × Bool × List Int)))) × List Int × Int) ⊕ (Int × Int × (List (Int × List Int × Bool)) × (List (List Int × Int × List Bool × Bool × Int × Bool × Int × (List (Int × Bool)))) × (List (Int × (List (Int × Int × Bool × List Int)))) × List Int × Int))
  | 0, _, _, _, _, _, _, _, _, _, _ => none
  | n + 1, p352, p353, p354, p355, p356, p357, p358, p359, p360, p361 =>
    bif (decide (p355 < p354)) then
      bif ((decide ((0 : Int) ≤ p355)) && (decide (p355 < (p352.length : Int)))) then
      (f_impl_NodeOk_4 (p352.getD p355.toNat 0)).bind fun y362 =>
      bif y362 then
        some (.inl (p355, p356, p357, p358, p359, p360, p361))
      else
        f_impl_NodeOk.l3 n p352 p353 p354 (IntKind.wrap .i64 (p355 + (1 : Int))) p356 p357 p358 p359 p360 p361
      else none
    else
      some (.inr (p353, p356, p357, p358, p359, p360, p361))
noncomputable def f_impl_NodeOk.l2 : Nat → (List (Int × (List (Int × Int × Bool × List Int)))) → Int → Int → Int → Int → (List (Int × List Int × Bool)) → (List (List Int × Int × List Bool × Bool × Int × Bool × Int × (List (Int × Bool)))) → (List (Int × (List (Int × Int × Bool × List Int)))) → (List Int) → Int → Option ((Int × Int × (List (Int × List Int × Bool)) × (List (List Int × Int × List Bool × Bool × Int × Bool × Int × (List (Int × Bool)))) × (List (Int × (List (Int × Int × Bool × List Int)))) × List Int × Int) ⊕ (Int × Int × (List (Int × List Int × Bool)) × (List (List Int × Int × List Bool × Bool × Int × Bool × Int × (List (Int × Bool)))) × (List (Int × (List (Int × Int × Bool × List Int)))) × List Int × Int))
  | 0, _, _, _, _, _, _, _, _, _, _ => none
  | n + 1, p338, p339, p340, p341, p342, p343, p344, p345, p346, p347 =>
    bif (decide (p341 < p340)) then
      bif ((decide ((0 : Int) ≤ p341)) && (decide (p341 < (p338.length : Int)))) then
      (f_impl_NodeOk_3 ((p338.getD p341.toNat (0, [])).1) ((p338.getD p341.toNat (0, [])).2)).bind fun y348 =>
      bif y348 then
        some (.inl (p341, p342, p343, p344, p345, p346, p347))
      else
        f_impl_NodeOk.l2 n p338 p339 p340 (IntKind.wrap .i64 (p341 + (1 : Int))) p342 p343 p344 p345 p346 p347
      else none
    else
      some (.inr (p339, p342, p343, p344, p345, p346, p347))
noncomputable def f_impl_NodeOk.l1 : Nat → (List (List Int × Int × List Bool × Bool × Int × Bool × Int × (List (Int × Bool)))) → Int → Int → Int → Int → (List (Int × List Int × Bool)) → (List (List Int × Int × List Bool × Bool × Int × Bool × Int × (List (Int × Bool)))) → (List (Int × (List (Int × Int × Bool × List Int)))) → (List Int) → Int → Option ((Int × Int × (List (Int × List Int × Bool)) × (List (List Int × Int × List Bool × Bool × Int × Bool × Int × (List (Int × Bool)))) × (List (Int × (List (Int × Int × Bool × List Int)))) × List Int × Int) ⊕ (Int × Int × (List (Int × List Int × Bool)) × (List (List Int × Int × List Bool × Bool × Int × Bool × Int × (List (Int × Bool)))) × (List (Int × (List (Int × Int × Bool × List Int)))) × List Int × Int))
  | 0, _, _, _, _, _, _, _, _, _, _ => none
  | n + 1, p324, p325, p326, p327, p328, p329, p330, p331, p332, p333 =>
    bif (decide (p327 < p326)) then
      bif ((decide ((0 : Int) ≤ p327)) && (decide (p327 < (p324.length : Int)))) then
      (f_impl_NodeOk_2 ((p324.getD p327.toNat ([], 0, [], false, 0, false, 0, [])).1) ((p324.getD p327.toNat ([], 0, [], false, 0, false, 0, [])).2.1) ((p324.getD p327.toNat ([], 0, [], false, 0, false, 0, [])).2.2.1) ((p324.getD p327.toNat ([], 0, [], false, 0, false, 0, [])).2.2.2.1) ((p324.getD p327.toNat ([], 0, [], false, 0, false, 0, [])).2.2.2.2.1) ((p324.getD p327.toNat ([], 0, [], false, 0, false, 0, [])).2.2.2.2.2.1) ((p324.getD p327.toNat ([], 0, [], false, 0, false, 0, [])).2.2.2.2.2.2.1) ((p324.getD p327.toNat ([], 0, [], false, 0, false, 0, [])).2.2.2.2.2.2.2) p333).bind fun y334 =>
      bif y334 then
        some (.inl (p327, p328, p329, p330, p331, p332, p333))
      else
        f_impl_NodeOk.l1 n p324 p325 p326 (IntKind.wrap .i64 (p327 + (1 : Int))) p328 p329 p330 p331 p332 p333
      else none
    else
      some (.inr (p325, p328, p329, p330, p331, p332, p333))
noncomputable def f_impl_NodeOk.l0 : Nat → (List (Int × List Int × Bool)) → Int → Int → Int → Int → (List (Int × List Int × Bool)) → (List (List Int × Int × List Bool × Bool × Int × Bool × Int × (List (Int × Bool)))) → (List (Int × (List (Int × Int × Bool × List Int)))) → (List Int) → Int → Option ((Int × Int × (List (Int × List Int × Bool)) × (List (List Int × Int × List Bool × Bool × Int × Bool × Int × (List (Int × Bool)))) × (List (Int × (List (Int × Int × Bool × List Int)))) × List Int × Int) ⊕ (Int × Int × (List (Int × List Int × Bool)) × (List (List Int × Int × List Bool × Bool × Int × Bool × Int × (List (Int × Bool)))) × (List (Int × (List (Int × Int × Bool × List Int)))) × List Int × Int))
  | 0, _, _, _, _, _, _, _, _, _, _ => none
  | n + 1, p310, p311, p312, p313, p314, p315, p316, p317, p318, p319 =>
    bif (decide (p313 < p312)) then
      bif ((decide ((0 : Int) ≤ p313)) && (decide (p313 < (p310.length : Int)))) then
      (f_impl_NodeOk_1 ((p310.getD p313.toNat (0, [], false)).1) ((p310.getD p313.toNat (0, [], false)).2.1) ((p310.getD p313.toNat (0, [], false)).2.2)).bind fun y320 =>
      bif y320 then
        some (.inl (p313, p314, p315, p316, p317, p318, p319))
      else
        f_impl_NodeOk.l0 n p310 p311 p312 (IntKind.wrap .i64 (p313 + (1 : Int))) p314 p315 p316 p317 p318 p319
      else none
    else
      some (.inr (p311, p314, p315, p316, p317, p318, p319))
noncomputable def f_impl_NodeOk (x0 : Int) (x1 : List (Int × List Int × Bool)) (x2 : List (List Int × Int × List Bool × Bool × Int × Bool × Int × (List (Int × Bool)))) (x3 : List (Int × (List (Int × Int × Bool × List Int)))) (x4 : List Int) (x5 : Int) : Option (Bool) :=
  (f_impl_isOf x0 x5).bind fun y309 =>
  bif y309 then
    bif (decide ((x1.length : Int) = (6 : Int))) then
      bif (decide ((x2.length : Int) = (6 : Int))) then
        bif (decide ((x3.length : Int) = x5)) then
          bif (decide ((x4.length : Int) = x5)) then
            (f_impl_NodeOk.l0 N x1 0 (x1.length : Int) 0 x0 x1 x2 x3 x4 x5).bind fun r321 =>
            cs r321 (fun a322 =>
              bif (!(decide ((0 : Int) ≤ a322.1))) then
                (f_impl_NodeOk.l1 N a322.2.2.2.1 0 (a322.2.2.2.1.length : Int) 0 a322.2.1 a322.2.2.1 a322.2.2.2.1 a322.2.2.2.2.1 a322.2.2.2.2.2.1 a322.2.2.2.2.2.2).bind fun r335 =>
                cs r335 (fun a336 =>
                  bif (!(decide ((0 : Int) ≤ a336.1))) then
                    (f_impl_NodeOk.l2 N a336.2.2.2.2.1 0 (a336.2.2.2.2.1.length : Int) 0 a336.2.1 a336.2.2.1 a336.2.2.2.1 a336.2.2.2.2.1 a336.2.2.2.2.2.1 a336.2.2.2.2.2.2).bind fun r349 =>
                    cs r349 (fun a350 =>
                      bif (!(decide ((0 : Int) ≤ a350.1))) then
                        (f_impl_NodeOk.l3 N a350.2.2.2.2.2.1 0 (a350.2.2.2.2.2.1.length : Int) 0 a350.2.1 a350.2.2.1 a350.2.2.2.1 a350.2.2.2.2.1 a350.2.2.2.2.2.1 a350.2.2.2.2.2.2).bind fun r363 =>
                        cs r363 (fun a364 =>
                          some (!(decide ((0 : Int) ≤ a364.1)))) (fun b365 =>
                          some true)
                      else
                        some false) (fun b351 =>
                      (f_impl_NodeOk.l4 N b351.2.2.2.2.2.1 0 (b351.2.2.2.2.2.1.length : Int) 0 b351.2.1 b351.2.2.1 b351.2.2.2.1 b351.2.2.2.2.1 b351.2.2.2.2.2.1 b351.2.2.2.2.2.2).bind fun r377 =>
                      cs r377 (fun a378 =>
                        some (!(decide ((0 : Int) ≤ a378.1)))) (fun b379 =>
                        some true))
                  else
                    some false) (fun b337 =>
                  (f_impl_NodeOk.l5 N b337.2.2.2.2.1 0 (b337.2.2.2.2.1.length : Int) 0 b337.2.1 b337.2.2.1 b337.2.2.2.1 b337.2.2.2.2.1 b337.2.2.2.2.2.1 b337.2.2.2.2.2.2).bind fun r391 =>
                  cs r391 (fun a392 =>
                    bif (!(decide ((0 : Int) ≤ a392.1))) then
                      (f_impl_NodeOk.l4 N a392.2.2.2.2.2.1 0 (a392.2.2.2.2.2.1.length : Int) 0 a392.2.1 a392.2.2.1 a392.2.2.2.1 a392.2.2.2.2.1 a392.2.2.2.2.2.1 a392.2.2.2.2.2.2).bind fun r394 =>
                      cs r394 (fun a395 =>
                        some (!(decide ((0 : Int) ≤ a395.1)))) (fun b396 =>
                        some true)
                    else
                      some false) (fun b393 =>
                    (f_impl_NodeOk.l6 N b393.2.2.2.2.2.1 0 (b393.2.2.2.2.2.1.length : Int) 0 b393.2.1 b393.2.2.1 b393.2.2.2.1 b393.2.2.2.2.1 b393.2.2.2.2.2.1 b393.2.2.2.2.2.2).bind fun r408 =>
                    cs r408 (fun a409 =>
                      some (!(decide ((0 : Int) ≤ a409.1)))) (fun b410 =>
                      some true)))
              else
                some false) (fun b323 =>
              (f_impl_NodeOk.l7 N b323.2.2.2.1 0 (b323.2.2.2.1.length : Int) 0 b323.2.1 b323.2.2.1 b323.2.2.2.1 b323.2.2.2.2.1 b323.2.2.2.2.2.1 b323.2.2.2.2.2.2).bind fun r422 =>
              cs r422 (fun a423 =>
                bif (!(decide ((0 : Int) ≤ a423.1))) then
                  (f_impl_NodeOk.l5 N a423.2.2.2.2.1 0 (a423.2.2.2.2.1.length : Int) 0 a423.2.1 a423.2.2.1 a423.2.2.2.1 a423.2.2.2.2.1 a423.2.2.2.2.2.1 a423.2.2.2.2.2.2).bind fun r425 =>
                  cs r425 (fun a426 =>
                    bif (!(decide ((0 : Int) ≤ a426.1))) then
                      (f_impl_NodeOk.l4 N a426.2.2.2.2.2.1 0 (a426.2.2.2.2.2.1.length : Int) 0 a426.2.1 a426.2.2.1 a426.2.2.2.1 a426.2.2.2.2.1 a426.2.2.2.2.2.1 a426.2.2.2.2.2.2).bind fun r428 =>
                      cs r428 (fun a429 =>
                        some (!(decide ((0 : Int) ≤ a429.1)))) (fun b430 =>
                        some true)
                    else
                      some false) (fun b427 =>
                    (f_impl_NodeOk.l6 N b427.2.2.2.2.2.1 0 (b427.2.2.2.2.2.1.length : Int) 0 b427.2.1 b427.2.2.1 b427.2.2.2.1 b427.2.2.2.2.1 b427.2.2.2.2.2.1 b427.2.2.2.2.2.2).bind fun r431 =>
                    cs r431 (fun a432 =>
                      some (!(decide ((0 : Int) ≤ a432.1)))) (fun b433 =>
                      some true))
                else
                  some false) (fun b424 =>
                (f_impl_NodeOk.l8 N b424.2.2.2.2.1 0 (b424.2.2.2.2.1.length : Int) 0 b424.2.1 b424.2.2.1 b424.2.2.2.1 b424.2.2.2.2.1 b424.2.2.2.2.2.1 b424.2.2.2.2.2.2).bind fun r445 =>
                cs r445 (fun a446 =>
                  bif (!(decide ((0 : Int) ≤ a446.1))) then
                    (f_impl_NodeOk.l6 N a446.2.2.2.2.2.1 0 (a446.2.2.2.2.2.1.length : Int) 0 a446.2.1 a446.2.2.1 a446.2.2.2.1 a446.2.2.2.2.1 a446.2.2.2.2.2.1 a446.2.2.2.2.2.2).bind fun r448 =>
                    cs r448 (fun a449 =>
                      some (!(decide ((0 : Int) ≤ a449.1)))) (fun b450 =>
                      some true)
                  else
                    some false) (fun b447 =>
                  (f_impl_NodeOk.l9 N b447.2.2.2.2.2.1 0 (b447.2.2.2.2.2.1.length : Int) 0 b447.2.1 b447.2.2.1 b447.2.2.2.1 b447.2.2.2.2.1 b447.2.2.2.2.2.1 b447.2.2.2.2.2.2).bind fun r462 =>
                  cs r462 (fun a463 =>
                    some (!(decide ((0 : Int) ≤ a463.1)))) (fun b464 =>
                    some true))))
          else
            some false
        else
          some false
      else
        some false
    else
      some false
  else
    some false
noncomputable def C17 : Con := ⟨[(.B, true, [(.int .i64), (.sl R1), (.sl R4), (.sl R6), (.sl R0)]), (.B, false, [(.int .i64)])], [(false, [.bool])], [(.int .i64), (.sl R1), (.sl R4), (.sl R6), (.sl R0), (.int .i64)], [.bool], fun (p : Int × (List (Int × List Int × Bool)) × (List (List Int × Int × List Bool × Bool × Int × Bool × Int × (List (Int × Bool)))) × (List (Int × (List (Int × Int × Bool × List Int)))) × List Int × Int) => f_impl_NodeOk p.1 p.2.1 p.2.2.1 p.2.2.2.1 p.2.2.2.2.1 p.2.2.2.2.2⟩
noncomputable def f_impl_NodeOk.l0.c : LoopCon := ⟨2046, 4, [0, 1, 4, 7, 8], ⟨[(0, .bor none R1 []), (1, .func 33 []), (4, .int .i64 0), (7, .int .i64 0), (8, .int .i64 0)], [(1006, .box [.int .i64 0, .bor (some 1) R1 [], .bor (some 2) R4 [], .bor (some 3) R6 [], .bor (some 4) R0 []]), (1022, .box [.int .i64 0])], 2046⟩, [(.sl R1), (.int .i64), (.int .i64), (.int .i64), (.int .i64), (.sl R1), (.sl R4), (.sl R6), (.sl R0), (.int .i64)], [⟨.ret, [4], ⟨[(4, .int .i64 0)], [(1006, .box [.int .i64 0, .bor (some 1) R1 [], .bor (some 2) R4 [], .bor (some 3) R6 [], .bor (some 4) R0 []]), (1022, .box [.int .i64 0])], 2046⟩, [(.int .i64), (.int .i64), (.sl R1), (.sl R4), (.sl R6), (.sl R0), (.int .i64)]⟩, ⟨.exit 0, [4], ⟨[(4, .int .i64 0)], [(1006, .box [.int .i64 0, .bor (some 1) R1 [], .bor (some 2) R4 [], .bor (some 3) R6 [], .bor (some 4) R0 []]), (1022, .box [.int .i64 0])], 2046⟩, [(.int .i64), (.int .i64), (.sl R1), (.sl R4), (.sl R6), (.sl R0), (.int .i64)]⟩], fun (p : (List (Int × List Int × Bool)) × Int × Int × Int × Int × (List (Int × List Int × Bool)) × (List (List Int × Int × List Bool × Bool × Int × Bool × Int × (List (Int × Bool)))) × (List (Int × (List (Int × Int × Bool × List Int)))) × List Int × Int) => f_impl_NodeOk.l0 N p.1 p.2.1 p.2.2.1 p.2.2.2.1 p.2.2.2.2.1 p.2.2.2.2.2.1 p.2.2.2.2.2.2.1 p.2.2.2.2.2.2.2.1 p.2.2.2.2.2.2.2.2.1 p.2.2.2.2.2.2.2.2.2⟩
noncomputable def f_impl_NodeOk.l1.c : LoopCon := ⟨2142, 4, [0, 1, 4, 7, 8], ⟨[(0, .bor none R4 []), (1, .func 36 [.ptr 1022 0]), (4, .int .i64 0), (7, .int .i64 0), (8, .int .i64 0)], [(1006, .box [.int .i64 0, .bor (some 1) R1 [], .bor (some 2) R4 [], .bor (some 3) R6 [], .bor (some 4) R0 []]), (1022, .box [.int .i64 0])], 2142⟩, [(.sl R4), (.int .i64), (.int .i64), (.int .i64), (.int .i64), (.sl R1), (.sl R4), (.sl R6), (.sl R0), (.int .i64)], [⟨.ret, [4], ⟨[(4, .int .i64 0)], [(1006, .box [.int .i64 0, .bor (some 1) R1 [], .bor (some 2) R4 [], .bor (some 3) R6 [], .bor (some 4) R0 []]), (1022, .box [.int .i64 0])], 2142⟩, [(.int .i64), (.int .i64), (.sl R1), (.sl R4), (.sl R6), (.sl R0), (.int .i64)]⟩, ⟨.exit 0, [4], ⟨[(4, .int .i64 0)], [(1006, .box [.int .i64 0, .bor (some 1) R1 [], .bor (some 2) R4 [], .bor (some 3) R6 [], .bor (some 4) R0 []]), (1022, .box [.int .i64 0])], 2142⟩, [(.int .i64), (.int .i64), (.sl R1), (.sl R4), (.sl R6), (.sl R0), (.int .i64)]⟩], fun (p : (List (List Int × Int × List Bool × Bool × Int × Bool × Int × (List (Int × Bool)))) × Int × Int × Int × Int × (List (Int × List Int × Bool)) × (List (List Int × Int × List Bool × Bool × Int × Bool × Int × (List (Int × Bool)))) × (List (Int × (List (Int × Int × Bool × List Int)))) × List Int × Int) => f_impl_NodeOk.l1 N p.1 p.2.1 p.2.2.1 p.2.2.2.1 p.2.2.2.2.1 p.2.2.2.2.2.1 p.2.2.2.2.2.2.1 p.2.2.2.2.2.2.2.1 p.2.2.2.2.2.2.2.2.1 p.2.2.2.2.2.2.2.2.2⟩
noncomputable def f_impl_NodeOk.l2.c : LoopCon := ⟨2238, 4, [0, 1, 4, 7, 8], ⟨[(0, .bor none R6 []), (1, .func 39 []), (4, .int .i64 0), (7, .int .i64 0), (8, .int .i64 0)], [(1006, .box [.int .i64 0, .bor (some 1) R1 [], .bor (some 2) R4 [], .bor (some 3) R6 [], .bor (some 4) R0 []]), (1022, .box [.int .i64 0])], 2238⟩, [(.sl R6), (.int .i64), (.int .i64), (.int .i64), (.int .i64), (.sl R1), (.sl R4), (.sl R6), (.sl R0), (.int .i64)], [⟨.ret, [4], ⟨[(4, .int .i64 0)], [(1006, .box [.int .i64 0, .bor (some 1) R1 [], .bor (some 2) R4 [], .bor (some 3) R6 [], .bor (some 4) R0 []]), (1022, .box [.int .i64 0])], 2238⟩, [(.int .i64), (.int .i64), (.sl R1), (.sl R4), (.sl R6), (.sl R0), (.int .i64)]⟩, ⟨.exit 0, [4], ⟨[(4, .int .i64 0)], [(1006, .box [.int .i64 0, .bor (some 1) R1 [], .bor (some 2) R4 [], .bor (some 3) R6 [], .bor (some 4) R0 []]), (1022, .box [.int .i64 0])], 2238⟩, [(.int .i64), (.int .i64), (.sl R1), (.sl R4), (.sl R6), (.sl R0), (.int .i64)]⟩], fun (p : (List (Int × (List (Int × Int × Bool × List Int)))) × Int × Int × Int × Int × (List (Int × List Int × Bool)) × (List (List Int × Int × List Bool × Bool × Int × Bool × Int × (List (Int × Bool)))) × (List (Int × (List (Int × Int × Bool × List Int)))) × List Int × Int) => f_impl_NodeOk.l2 N p.1 p.2.1 p.2.2.1 p.2.2.2.1 p.2.2.2.2.1 p.2.2.2.2.2.1 p.2.2.2.2.2.2.1 p.2.2.2.2.2.2.2.1 p.2.2.2.2.2.2.2.2.1 p.2.2.2.2.2.2.2.2.2⟩
noncomputable def f_impl_NodeOk.l3.c : LoopCon := ⟨2334, 4, [0, 1, 4, 7, 8], ⟨[(0, .bor none R0 []), (1, .func 42 []), (4, .int .i64 0), (7, .int .i64 0), (8, .int .i64 0)], [(1006, .box [.int .i64 0, .bor (some 1) R1 [], .bor (some 2) R4 [], .bor (some 3) R6 [], .bor (some 4) R0 []]), (1022, .box [.int .i64 0])], 2334⟩, [(.sl R0), (.int .i64), (.int .i64), (.int .i64), (.int .i64), (.sl R1), (.sl R4), (.sl R6), (.sl R0), (.int .i64)], [⟨.ret, [4], ⟨[(4, .int .i64 0)], [(1006, .box [.int .i64 0, .bor (some 1) R1 [], .bor (some 2) R4 [], .bor (some 3) R6 [], .bor (some 4) R0 []]), (1022, .box [.int .i64 0])], 2334⟩, [(.int .i64), (.int .i64), (.sl R1), (.sl R4), (.sl R6), (.sl R0), (.int .i64)]⟩, ⟨.exit 0, [4], ⟨[(4, .int .i64 0)], [(1006, .box [.int .i64 0, .bor (some 1) R1 [], .bor (some 2) R4 [], .bor (some 3) R6 [], .bor (some 4) R0 []]), (1022, .box [.int .i64 0])], 2334⟩, [(.int .i64), (.int .i64), (.sl R1), (.sl R4), (.sl R6), (.sl R0), (.int .i64)]⟩], fun (p : List Int × Int × Int × Int × Int × (List (Int × List Int × Bool)) × (List (List Int × Int × List Bool × Bool × Int × Bool × Int × (List (Int × Bool)))) × (List (Int × (List (Int × Int × Bool × List Int)))) × List Int × Int) => f_impl_NodeOk.l3 N p.1 p.2.1 p.2.2.1 p.2.2.2.1 p.2.2.2.2.1 p.2.2.2.2.2.1 p.2.2.2.2.2.2.1 p.2.2.2.2.2.2.2.1 p.2.2.2.2.2.2.2.2.1 p.2.2.2.2.2.2.2.2.2⟩
noncomputable def f_impl_NodeOk.l4.c : LoopCon := ⟨2350, 4, [0, 1, 4, 7, 8], ⟨[(0, .bor none R0 []), (1, .func 42 []), (4, .int .i64 0), (7, .int .i64 0), (8, .int .i64 0)], [(1006, .box [.int .i64 0, .bor (some 1) R1 [], .bor (some 2) R4 [], .bor (some 3) R6 [], .bor (some 4) R0 []]), (1022, .box [.int .i64 0])], 2350⟩, [(.sl R0), (.int .i64), (.int .i64), (.int .i64), (.int .i64), (.sl R1), (.sl R4), (.sl R6), (.sl R0), (.int .i64)], [⟨.ret, [4], ⟨[(4, .int .i64 0)], [(1006, .box [.int .i64 0, .bor (some 1) R1 [], .bor (some 2) R4 [], .bor (some 3) R6 [], .bor (some 4) R0 []]), (1022, .box [.int .i64 0])], 2350⟩, [(.int .i64), (.int .i64), (.sl R1), (.sl R4), (.sl R6), (.sl R0), (.int .i64)]⟩, ⟨.exit 0, [4], ⟨[(4, .int .i64 0)], [(1006, .box [.int .i64 0, .bor (some 1) R1 [], .bor (some 2) R4 [], .bor (some 3) R6 [], .bor (some 4) R0 []]), (1022, .box [.int .i64 0])], 2350⟩, [(.int .i64), (.int .i64), (.sl R1), (.sl R4), (.sl R6), (.sl R0), (.int .i64)]⟩], fun (p : List Int × Int × Int × Int × Int × (List (Int × List Int × Bool)) × (List (List Int × Int × List Bool × Bool × Int × Bool × Int × (List (Int × Bool)))) × (List (Int × (List (Int × Int × Bool × List Int)))) × List Int × Int) => f_impl_NodeOk.l4 N p.1 p.2.1 p.2.2.1 p.2.2.2.1 p.2.2.2.2.1 p.2.2.2.2.2.1 p.2.2.2.2.2.2.1 p.2.2.2.2.2.2.2.1 p.2.2.2.2.2.2.2.2.1 p.2.2.2.2.2.2.2.2.2⟩
noncomputable def f_impl_NodeOk.l5.c : LoopCon := ⟨2254, 4, [0, 1, 4, 7, 8], ⟨[(0, .bor none R6 []), (1, .func 39 []), (4, .int .i64 0), (7, .int .i64 0), (8, .int .i64 0)], [(1006, .box [.int .i64 0, .bor (some 1) R1 [], .bor (some 2) R4 [], .bor (some 3) R6 [], .bor (some 4) R0 []]), (1022, .box [.int .i64 0])], 2254⟩, [(.sl R6), (.int .i64), (.int .i64), (.int .i64), (.int .i64), (.sl R1), (.sl R4), (.sl R6), (.sl R0), (.int .i64)], [⟨.ret, [4], ⟨[(4, .int .i64 0)], [(1006, .box [.int .i64 0, .bor (some 1) R1 [], .bor (some 2) R4 [], .bor (some 3) R6 [], .bor (some 4) R0 []]), (1022, .box [.int .i64 0])], 2254⟩, [(.int .i64), (.int .i64), (.sl R1), (.sl R4), (.sl R6), (.sl R0), (.int .i64)]⟩, ⟨.exit 0, [4], ⟨[(4, .int .i64 0)], [(1006, .box [.int .i64 0, .bor (some 1) R1 [], .bor (some 2) R4 [], .bor (some 3) R6 [], .bor (some 4) R0 []]), (1022, .box [.int .i64 0])], 2254⟩, [(.int .i64), (.int .i64), (.sl R1), (.sl R4), (.sl R6), (.sl R0), (.int .i64)]⟩], fun (p : (List (Int × (List (Int × Int × Bool × List Int)))) × Int × Int × Int × Int × (List (Int × List Int × Bool)) × (List (List Int × Int × List Bool × Bool × Int × Bool × Int × (List (Int × Bool)))) × (List (Int × (List (Int × Int × Bool × List Int)))) × List Int × Int) => f_impl_NodeOk.l5 N p.1 p.2.1 p.2.2.1 p.2.2.2.1 p.2.2.2.2.1 p.2.2.2.2.2.1 p.2.2.2.2.2.2.1 p.2.2.2.2.2.2.2.1 p.2.2.2.2.2.2.2.2.1 p.2.2.2.2.2.2.2.2.2⟩
noncomputable def f_impl_NodeOk.l6.c : LoopCon := ⟨2366, 4, [0, 1, 4, 7, 8], ⟨[(0, .bor none R0 []), (1, .func 42 []), (4, .int .i64 0), (7, .int .i64 0), (8, .int .i64 0)], [(1006, .box [.int .i64 0, .bor (some 1) R1 [], .bor (some 2) R4 [], .bor (some 3) R6 [], .bor (some 4) R0 []]), (1022, .box [.int .i64 0])], 2366⟩, [(.sl R0), (.int .i64), (.int .i64), (.int .i64), (.int .i64), (.sl R1), (.sl R4), (.sl R6), (.sl R0), (.int .i64)], [⟨.ret, [4], ⟨[(4, .int .i64 0)], [(1006, .box [.int .i64 0, .bor (some 1) R1 [], .bor (some 2) R4 [], .bor (some 3) R6 [], .bor (some 4) R0 []]), (1022, .box [.int .i64 0])], 2366⟩, [(.int .i64), (.int .i64), (.sl R1), (.sl R4), (.sl R6), (.sl R0), (.int .i64)]⟩, ⟨.exit 0, [4], ⟨[(4, .int .i64 0)], [(1006, .box [.int .i64 0, .bor (some 1) R1 [], .bor (some 2) R4 [], .bor (some 3) R6 [], .bor (some 4) R0 []]), (1022, .box [.int .i64 0])], 2366⟩, [(.int .i64), (.int .i64), (.sl R1), (.sl R4), (.sl R6), (.sl R0), (.int .i64)]⟩], fun (p : List Int × Int × Int × Int × Int × (List (Int × List Int × Bool)) × (List (List Int × Int × List Bool × Bool × Int × Bool × Int × (List (Int × Bool)))) × (List (Int × (List (Int × Int × Bool × List Int)))) × List Int × Int) => f_impl_NodeOk.l6 N p.1 p.2.1 p.2.2.1 p.2.2.2.1 p.2.2.2.2.1 p.2.2.2.2.2.1 p.2.2.2.2.2.2.1 p.2.2.2.2.2.2.2.1 p.2.2.2.2.2.2.2.2.1 p.2.2.2.2.2.2.2.2.2⟩
noncomputable def f_impl_NodeOk.l7.c : LoopCon := ⟨2158, 4, [0, 1, 4, 7, 8], ⟨[(0, .bor none R4 []), (1, .func 36 [.ptr 1022 0]), (4, .int .i64 0), (7, .int .i64 0), (8, .int .i64 0)], [(1006, .box [.int .i64 0, .bor (some 1) R1 [], .bor (some 2) R4 [], .bor (some 3) R6 [], .bor (some 4) R0 []]), (1022, .box [.int .i64 0])], 2158⟩, [(.sl R4), (.int .i64), (.int .i64), (.int .i64), (.int .i64), (.sl R1), (.sl R4), (.sl R6), (.sl R0), (.int .i64)], [⟨.ret, [4], ⟨[(4, .int .i64 0)], [(1006, .box [.int .i64 0, .bor (some 1) R1 [], .bor (some 2) R4 [], .bor (some 3) R6 [], .bor (some 4) R0 []]), (1022, .box [.int .i64 0])], 2158⟩, [(.int .i64), (.int .i64), (.sl R1), (.sl R4), (.sl R6), (.sl R0), (.int .i64)]⟩, ⟨.exit 0, [4], ⟨[(4, .int .i64 0)], [(1006, .box [.int .i64 0, .bor (some 1) R1 [], .bor (some 2) R4 [], .bor (some 3) R6 [], .bor (some 4) R0 []]), (1022, .box [.int .i64 0])], 2158⟩, [(.int .i64), (.int .i64), (.sl R1), (.sl R4), (.sl R6), (.sl R0), (.int .i64)]⟩], fun (p : (List (List Int × Int × List Bool × Bool × Int × Bool × Int × (List (Int × Bool)))) × Int × Int × Int × Int × (List (Int × List Int × Bool)) × (List (List Int × Int × List Bool × Bool × Int × Bool × Int × (List (Int × Bool)))) × (List (Int × (List (Int × Int × Bool × List Int)))) × List Int × Int) => f_impl_NodeOk.l7 N p.1 p.2.1 p.2.2.1 p.2.2.2.1 p.2.2.2.2.1 p.2.2.2.2.2.1 p.2.2.2.2.2.2.1 p.2.2.2.2.2.2.2.1 p.2.2.2.2.2.2.2.2.1 p.2.2.2.2.2.2.2.2.2⟩
noncomputable def f_impl_NodeOk.l8.c : LoopCon := ⟨2270, 4, [0, 1, 4, 7, 8], ⟨[(0, .bor none R6 []), (1, .func 39 []), (4, .int .i64 0), (7, .int .i64 0), (8, .int .i64 0)], [(1006, .box [.int .i64 0, .bor (some 1) R1 [], .bor (some 2) R4 [], .bor (some 3) R6 [], .bor (some 4) R0 []]), (1022, .box [.int .i64 0])], 2270⟩, [(.sl R6), (.int .i64), (.int .i64), (.int .i64), (.int .i64), (.sl R1), (.sl R4), (.sl R6), (.sl R0), (.int .i64)], [⟨.ret, [4], ⟨[(4, .int .i64 0)], [(1006, .box [.int .i64 0, .bor (some 1) R1 [], .bor (some 2) R4 [], .bor (some 3) R6 [], .bor (some 4) R0 []]), (1022, .box [.int .i64 0])], 2270⟩, [(.int .i64), (.int .i64), (.sl R1), (.sl R4), (.sl R6), (.sl R0), (.int .i64)]⟩, ⟨.exit 0, [4], ⟨[(4, .int .i64 0)], [(1006, .box [.int .i64 0, .bor (some 1) R1 [], .bor (some 2) R4 [], .bor (some 3) R6 [], .bor (some 4) R0 []]), (1022, .box [.int .i64 0])], 2270⟩, [(.int .i64), (.int .i64), (.sl R1), (.sl R4), (.sl R6), (.sl R0), (.int .i64)]⟩], fun (p : (List (Int × (List (Int × Int × Bool × List Int)))) × Int × Int × Int × Int × (List (Int × List Int × Bool)) × (List (List Int × Int × List Bool × Bool × Int × Bool × Int × (List (Int × Bool)))) × (List (Int × (List (Int × Int × Bool × List Int)))) × List Int × Int) => f_impl_NodeOk.l8 N p.1 p.2.1 p.2.2.1 p.2.2.2.1 p.2.2.2.2.1 p.2.2.2.2.2.1 p.2.2.2.2.2.2.1 p.2.2.2.2.2.2.2.1 p.2.2.2.2.2.2.2.2.1 p.2.2.2.2.2.2.2.2.2⟩
noncomputable def f_impl_NodeOk.l9.c : LoopCon := ⟨2382, 4, [0, 1, 4, 7, 8], ⟨[(0, .bor none R0 []), (1, .func 42 []), (4, .int .i64 0), (7, .int .i64 0), (8, .int .i64 0)], [(1006, .box [.int .i64 0, .bor (some 1) R1 [], .bor (some 2) R4 [], .bor (some 3) R6 [], .bor (some 4) R0 []]), (1022, .box [.int .i64 0])], 2382⟩, [(.sl R0), (.int .i64), (.int .i64), (.int .i64), (.int .i64), (.sl R1), (.sl R4), (.sl R6), (.sl R0), (.int .i64)], [⟨.ret, [4], ⟨[(4, .int .i64 0)], [(1006, .box [.int .i64 0, .bor (some 1) R1 [], .bor (some 2) R4 [], .bor (some 3) R6 [], .bor (some 4) R0 []]), (1022, .box [.int .i64 0])], 2382⟩, [(.int .i64), (.int .i64), (.sl R1), (.sl R4), (.sl R6), (.sl R0), (.int .i64)]⟩, ⟨.exit 0, [4], ⟨[(4, .int .i64 0)], [(1006, .box [.int .i64 0, .bor (some 1) R1 [], .bor (some 2) R4 [], .bor (some 3) R6 [], .bor (some 4) R0 []]), (1022, .box [.int .i64 0])], 2382⟩, [(.int .i64), (.int .i64), (.sl R1), (.sl R4), (.sl R6), (.sl R0), (.int .i64)]⟩], fun (p : List Int × Int × Int × Int × Int × (List (Int × List Int × Bool)) × (List (List Int × Int × List Bool × Bool × Int × Bool × Int × (List (Int × Bool)))) × (List (Int × (List (Int × Int × Bool × List Int)))) × List Int × Int) => f_impl_NodeOk.l9 N p.1 p.2.1 p.2.2.1 p.2.2.2.1 p.2.2.2.2.1 p.2.2.2.2.2.1 p.2.2.2.2.2.2.1 p.2.2.2.2.2.2.2.1 p.2.2.2.2.2.2.2.2.1 p.2.2.2.2.2.2.2.2.2⟩
noncomputable abbrev K17 : Cons := [(31, C31), (33, C33), (36, C36), (39, C39), (42, C42)]
noncomputable abbrev L17 : List (Nat × Loops) := [(59, [(2, f_impl_NodeOk.l0.c)]), (61, [(2, f_impl_NodeOk.l1.c), (2, f_impl_NodeOk.l7.c)]), (64, [(2, f_impl_NodeOk.l2.c), (2, f_impl_NodeOk.l5.c), (2, f_impl_NodeOk.l8.c)]), (67, [(2, f_impl_NodeOk.l3.c), (2, f_impl_NodeOk.l4.c), (2, f_impl_NodeOk.l6.c), (2, f_impl_NodeOk.l9.c)])]
abbrev Q17 : List (Nat × List (Int × Nat) × Nat) := []
noncomputable abbrev X17 : Nat → Ctx := ctxOf tb K17 L17 Q17
theorem f_impl_NodeOk.l0.ok : ∀ n p, (fun (p : (List (Int × List Int × Bool)) × Int × Int × Int × Int × (List (Int × List Int × Bool)) × (List (List Int × Int × List Bool × Bool × Int × Bool × Int × (List (Int × Bool)))) × (List (Int × (List (Int × Int × Bool × List Int)))) × List Int × Int) => f_impl_NodeOk.l0 n p.1 p.2.1 p.2.2.1 p.2.2.2.1 p.2.2.2.2.1 p.2.2.2.2.2.1 p.2.2.2.2.2.2.1 p.2.2.2.2.2.2.2.1 p.2.2.2.2.2.2.2.2.1 p.2.2.2.2.2.2.2.2.2) p = iterD (roundOf fs X17 4 59 2 true f_impl_NodeOk.l0.c) n p :=
  iter_of (l := fun n => fun (p : (List (Int × List Int × Bool)) × Int × Int × Int × Int × (List (Int × List Int × Bool)) × (List (List Int × Int × List Bool × Bool × Int × Bool × Int × (List (Int × Bool)))) × (List (Int × (List (Int × Int × Bool × List Int)))) × List Int × Int) => f_impl_NodeOk.l0 n p.1 p.2.1 p.2.2.1 p.2.2.2.1 p.2.2.2.2.1 p.2.2.2.2.2.1 p.2.2.2.2.2.2.1 p.2.2.2.2.2.2.2.1 p.2.2.2.2.2.2.2.2.1 p.2.2.2.2.2.2.2.2.2) (fun _ => rfl) (fun n p => by kernel_rfl)
theorem f_impl_NodeOk.l1.ok : ∀ n p, (fun (p : (List (List Int × Int × List Bool × Bool × Int × Bool × Int × (List (Int × Bool)))) × Int × Int × Int × Int × (List (Int × List Int × Bool)) × (List (List Int × Int × List Bool × Bool × Int × Bool × Int × (List (Int × Bool)))) × (List (Int × (List (Int × Int × Bool × List Int)))) × List Int × Int) => f_impl_NodeOk.l1 n p.1 p.2.1 p.2.2.1 p.2.2.2.1 p.2.2.2.2.1 p.2.2.2.2.2.1 p.2.2.2.2.2.2.1 p.2.2.2.2.2.2.2.1 p.2.2.2.2.2.2.2.2.1 p.2.2.2.2.2.2.2.2.2) p = iterD (roundOf fs X17 4 61 2 true f_impl_NodeOk.l1.c) n p :=
  iter_of (l := fun n => fun (p : (List (List Int × Int × List Bool × Bool × Int × Bool × Int × (List (Int × Bool)))) × Int × Int × Int × Int × (List (Int × List Int × Bool)) × (List (List Int × Int × List Bool × Bool × Int × Bool × Int × (List (Int × Bool)))) × (List (Int × (List (Int × Int × Bool × List Int)))) × List Int × Int) => f_impl_NodeOk.l1 n p.1 p.2.1 p.2.2.1 p.2.2.2.1 p.2.2.2.2.1 p.2.2.2.2.2.1 p.2.2.2.2.2.2.1 p.2.2.2.2.2.2.2.1 p.2.2.2.2.2.2.2.2.1 p.2.2.2.2.2.2.2.2.2) (fun _ => rfl) (fun n p => by kernel_rfl)
theorem f_impl_NodeOk.l2.ok : ∀ n p, (fun (p : (List (Int × (List (Int × Int × Bool × List Int)))) × Int × Int × Int × Int × (List (Int × List Int × Bool)) × (List (List Int × Int × List Bool × Bool × Int × Bool × Int × (List (Int × Bool)))) × (List (Int × (List (Int × Int × Bool × List Int)))) × List Int × Int) => f_impl_NodeOk.l2 n p.1 p.2.1 p.2.2.1 p.2.2.2.1 p.2.2.2.2.1 p.2.2.2.2.2.1 p.2.2.2.2.2.2.1 p.2.2.2.2.2.2.2.1 p.2.2.2.2.2.2.2.2.1 p.2.2.2.2.2.2.2.2.2) p = iterD (roundOf fs X17 4 64 2 true f_impl_NodeOk.l2.c) n p :=
  iter_of (l := fun n => fun (p : (List (Int × (List (Int × Int × Bool × List Int)))) × Int × Int × Int × Int × (List (Int × List Int × Bool)) × (List (List Int × Int × List Bool × Bool × Int × Bool × Int × (List (Int × Bool)))) × (List (Int × (List (Int × Int × Bool × List Int)))) × List Int × Int) => f_impl_NodeOk.l2 n p.1 p.2.1 p.2.2.1 p.2.2.2.1 p.2.2.2.2.1 p.2.2.2.2.2.1 p.2.2.2.2.2.2.1 p.2.2.2.2.2.2.2.1 p.2.2.2.2.2.2.2.2.1 p.2.2.2.2.2.2.2.2.2) (fun _ => rfl) (fun n p => by kernel_rfl)
theorem f_impl_NodeOk.l3.ok : ∀ n p, (fun (p : List Int × Int × Int × Int × Int × (List (Int × List Int × Bool)) × (List (List Int × Int × List Bool × Bool × Int × Bool × Int × (List (Int × Bool)))) × (List (Int × (List (Int × Int × Bool × List Int)))) × List Int × Int) => f_impl_NodeOk.l3 n p.1 p.2.1 p.2.2.1 p.2.2.2.1 p.2.2.2.2.1 p.2.2.2.2.2.1 p.2.2.2.2.2.2.1 p.2.2.2.2.2.2.2.1 p.2.2.2.2.2.2.2.2.1 p.2.2.2.2.2.2.2.2.2) p = iterD (roundOf fs X17 4 67 2 true f_impl_NodeOk.l3.c) n p :=
  iter_of (l := fun n => fun (p : List Int × Int × Int × Int × Int × (List (Int × List Int × Bool)) × (List (List Int × Int × List Bool × Bool × Int × Bool × Int × (List (Int × Bool)))) × (List (Int × (List (Int × Int × Bool × List Int)))) × List Int × Int) => f_impl_NodeOk.l3 n p.1 p.2.1 p.2.2.1 p.2.2.2.1 p.2.2.2.2.1 p.2.2.2.2.2.1 p.2.2.2.2.2.2.1 p.2.2.2.2.2.2.2.1 p.2.2.2.2.2.2.2.2.1 p.2.2.2.2.2.2.2.2.2) (fun _ => rfl) (fun n p => by kernel_rfl)
theorem f_impl_NodeOk.l4.ok : ∀ n p, (fun (p : List Int × Int × Int × Int × Int × (List (Int × List Int × Bool)) × (List (List Int × Int × List Bool × Bool × Int × Bool × Int × (List (Int × Bool)))) × (List (Int × (List (Int × Int × Bool × List Int)))) × List Int × Int) => f_impl_NodeOk.l4 n p.1 p.2.1 p.2.2.1 p.2.2.2.1 p.2.2.2.2.1 p.2.2.2.2.2.1 p.2.2.2.2.2.2.1 p.2.2.2.2.2.2.2.1 p.2.2.2.2.2.2.2.2.1 p.2.2.2.2.2.2.2.2.2) p = iterD (roundOf fs X17 4 67 2 true f_impl_NodeOk.l4.c) n p :=
  iter_of (l := fun n => fun (p : List Int × Int × Int × Int × Int × (List (Int × List Int × Bool)) × (List (List Int × Int × List Bool × Bool × Int × Bool × Int × (List (Int × Bool)))) × (List (Int × (List (Int × Int × Bool × List Int)))) × List Int × Int) => f_impl_NodeOk.l4 n p.1 p.2.1 p.2.2.1 p.2.2.2.1 p.2.2.2.2.1 p.2.2.2.2.2.1 p.2.2.2.2.2.2.1 p.2.2.2.2.2.2.2.1 p.2.2.2.2.2.2.2.2.1 p.2.2.2.2.2.2.2.2.2) (fun _ => rfl) (fun n p => by kernel_rfl)
theorem f_impl_NodeOk.l5.ok : ∀ n p, (fun (p : (List (Int × (List (Int × Int × Bool × List Int)))) × Int × Int × Int × Int × (List (Int × List Int × Bool)) × (List (List Int × Int × List Bool × Bool × Int × Bool × Int × (List (Int × Bool)))) × (List (Int × (List (Int × Int × Bool × List Int)))) × List Int × Int) => f_impl_NodeOk.l5 n p.1 p.2.1 p.2.2.1 p.2.2.2.1 p.2.2.2.2.1 p.2.2.2.2.2.1 p.2.2.2.2.2.2.1 p.2.2.2.2.2.2.2.1 p.2.2.2.2.2.2.2.2.1 p.2.2.2.2.2.2.2.2.2) p = iterD (roundOf fs X17 4 64 2 true f_impl_NodeOk.l5.c) n p :=
  iter_of (l := fun n => fun (p : (List (Int × (List (Int × Int × Bool × List Int)))) × Int × Int × Int × Int × (List (Int × List Int × Bool)) × (List (List Int × Int × List Bool × Bool × Int × Bool × Int × (List (Int × Bool)))) × (List (Int × (List (Int × Int × Bool × List Int)))) × List Int × Int) => f_impl_NodeOk.l5 n p.1 p.2.1 p.2.2.1 p.2.2.2.1 p.2.2.2.2.1 p.2.2.2.2.2.1 p.2.2.2.2.2.2.1 p.2.2.2.2.2.2.2.1 p.2.2.2.2.2.2.2.2.1 p.2.2.2.2.2.2.2.2.2) (fun _ => rfl) (fun n p => by kernel_rfl)
theorem f_impl_NodeOk.l6.ok : ∀ n p, (fun (p : List Int × Int × Int × Int × Int × (List (Int × List Int × Bool)) × (List (List Int × Int × List Bool × Bool × Int × Bool × Int × (List (Int × Bool)))) × (List (Int × (List (Int × Int × Bool × List Int)))) × List Int × Int) => f_impl_NodeOk.l6 n p.1 p.2.1 p.2.2.1 p.2.2.2.1 p.2.2.2.2.1 p.2.2.2.2.2.1 p.2.2.2.2.2.2.1 p.2.2.2.2.2.2.2.1 p.2.2.2.2.2.2.2.2.1 p.2.2.2.2.2.2.2.2.2) p = iterD (roundOf fs X17 4 67 2 true f_impl_NodeOk.l6.c) n p :=
  iter_of (l := fun n => fun (p : List Int × Int × Int × Int × Int × (List (Int × List Int × Bool)) × (List (List Int × Int × List Bool × Bool × Int × Bool × Int × (List (Int × Bool)))) × (List (Int × (List (Int × Int × Bool × List Int)))) × List Int × Int) => f_impl_NodeOk.l6 n p.1 p.2.1 p.2.2.1 p.2.2.2.1 p.2.2.2.2.1 p.2.2.2.2.2.1 p.2.2.2.2.2.2.1 p.2.2.2.2.2.2.2.1 p.2.2.2.2.2.2.2.2.1 p.2.2.2.2.2.2.2.2.2) (fun _ => rfl) (fun n p => by kernel_rfl)
theorem f_impl_NodeOk.l7.ok : ∀ n p, (fun (p : (List (List Int × Int × List Bool × Bool × Int × Bool × Int × (List (Int × Bool)))) × Int × Int × Int × Int × (List (Int × List Int × Bool)) × (List (List Int × Int × List Bool × Bool × Int × Bool × Int × (List (Int × Bool)))) × (List (Int × (List (Int × Int × Bool × List Int)))) × List Int × Int) => f_impl_NodeOk.l7 n p.1 p.2.1 p.2.2.1 p.2.2.2.1 p.2.2.2.2.1 p.2.2.2.2.2.1 p.2.2.2.2.2.2.1 p.2.2.2.2.2.2.2.1 p.2.2.2.2.2.2.2.2.1 p.2.2.2.2.2.2.2.2.2) p = iterD (roundOf fs X17 4 61 2 true f_impl_NodeOk.l7.c) n p :=
  iter_of (l := fun n => fun (p : (List (List Int × Int × List Bool × Bool × Int × Bool × Int × (List (Int × Bool)))) × Int × Int × Int × Int × (List (Int × List Int × Bool)) × (List (List Int × Int × List Bool × Bool × Int × Bool × Int × (List (Int × Bool)))) × (List (Int × (List (Int × Int × Bool × List Int)))) × List Int × Int) => f_impl_NodeOk.l7 n p.1 p.2.1 p.2.2.1 p.2.2.2.1 p.2.2.2.2.1 p.2.2.2.2.2.1 p.2.2.2.2.2.2.1 p.2.2.2.2.2.2.2.1 p.2.2.2.2.2.2.2.2.1 p.2.2.2.2.2.2.2.2.2) (fun _ => rfl) (fun n p => by kernel_rfl)
theorem f_impl_NodeOk.l8.ok : ∀ n p, (fun (p : (List (Int × (List (Int × Int × Bool × List Int)))) × Int × Int × Int × Int × (List (Int × List Int × Bool)) × (List (List Int × Int × List Bool × Bool × Int × Bool × Int × (List (Int × Bool)))) × (List (Int × (List (Int × Int × Bool × List Int)))) × List Int × Int) => f_impl_NodeOk.l8 n p.1 p.2.1 p.2.2.1 p.2.2.2.1 p.2.2.2.2.1 p.2.2.2.2.2.1 p.2.2.2.2.2.2.1 p.2.2.2.2.2.2.2.1 p.2.2.2.2.2.2.2.2.1 p.2.2.2.2.2.2.2.2.2) p = iterD (roundOf fs X17 4 64 2 true f_impl_NodeOk.l8.c) n p :=
  iter_of (l := fun n => fun (p : (List (Int × (List (Int × Int × Bool × List Int)))) × Int × Int × Int × Int × (List (Int × List Int × Bool)) × (List (List Int × Int × List Bool × Bool × Int × Bool × Int × (List (Int × Bool)))) × (List (Int × (List (Int × Int × Bool × List Int)))) × List Int × Int) => f_impl_NodeOk.l8 n p.1 p.2.1 p.2.2.1 p.2.2.2.1 p.2.2.2.2.1 p.2.2.2.2.2.1 p.2.2.2.2.2.2.1 p.2.2.2.2.2.2.2.1 p.2.2.2.2.2.2.2.2.1 p.2.2.2.2.2.2.2.2.2) (fun _ => rfl) (fun n p => by kernel_rfl)
theorem f_impl_NodeOk.l9.ok : ∀ n p, (fun (p : List Int × Int × Int × Int × Int × (List (Int × List Int × Bool)) × (List (List Int × Int × List Bool × Bool × Int × Bool × Int × (List (Int × Bool)))) × (List (Int × (List (Int × Int × Bool × List Int)))) × List Int × Int) => f_impl_NodeOk.l9 n p.1 p.2.1 p.2.2.1 p.2.2.2.1 p.2.2.2.2.1 p.2.2.2.2.2.1 p.2.2.2.2.2.2.1 p.2.2.2.2.2.2.2.1 p.2.2.2.2.2.2.2.2.1 p.2.2.2.2.2.2.2.2.2) p = iterD (roundOf fs X17 4 67 2 true f_impl_NodeOk.l9.c) n p :=
  iter_of (l := fun n => fun (p : List Int × Int × Int × Int × Int × (List (Int × List Int × Bool)) × (List (List Int × Int × List Bool × Bool × Int × Bool × Int × (List (Int × Bool)))) × (List (Int × (List (Int × Int × Bool × List Int)))) × List Int × Int) => f_impl_NodeOk.l9 n p.1 p.2.1 p.2.2.1 p.2.2.2.1 p.2.2.2.2.1 p.2.2.2.2.2.1 p.2.2.2.2.2.2.1 p.2.2.2.2.2.2.2.1 p.2.2.2.2.2.2.2.2.1 p.2.2.2.2.2.2.2.2.2) (fun _ => rfl) (fun n p => by kernel_rfl)
theorem E17 : ∀ x, funRun fs X17 6 17 C17 x = C17.fn x := fun x => by kernel_rfl
theorem B17 : ConB Tryz.prog 17 C17 := ConB.make FS MIX TY (cons := K17) (L := L17) (ptrs := Q17) ⟨S31, S33, S36, S39, S42, trivial⟩ trivial ⟨⟨⟨N, fun p => f_impl_NodeOk.l0.ok N p⟩, trivial⟩, ⟨⟨N, fun p => f_impl_NodeOk.l1.ok N p⟩, ⟨N, fun p => f_impl_NodeOk.l7.ok N p⟩, trivial⟩, ⟨⟨N, fun p => f_impl_NodeOk.l2.ok N p⟩, ⟨N, fun p => f_impl_NodeOk.l5.ok N p⟩, ⟨N, fun p => f_impl_NodeOk.l8.ok N p⟩, trivial⟩, ⟨⟨N, fun p => f_impl_NodeOk.l3.ok N p⟩, ⟨N, fun p => f_impl_NodeOk.l4.ok N p⟩, ⟨N, fun p => f_impl_NodeOk.l6.ok N p⟩, ⟨N, fun p => f_impl_NodeOk.l9.ok N p⟩, trivial⟩, trivial⟩ rfl rfl E17
theorem S17 : ConS Tryz.prog 17 C17 := B17.call rfl
/-! impl.PacketOk: function 20 -/
noncomputable def f_impl_PacketOk (x0 : Int) (x1 : Int) (x2 : Bool) (x3 : Int) (x4 : Int) (x5 : Int) (x6 : Bool) (x7 : List Int) (x8 : Int) : Option (Bool) :=
  (f_impl_isOf x0 x8).bind fun y465 =>
  bif (!y465) then
    some false
  else
    (f_impl_isOf x1 x8).bind fun y466 =>
    bif (!y466) then
      some false
    else
      (f_impl_isSeq x3).bind fun y467 =>
      bif (!y467) then
        some false
      else
        bif x2 then
          bif (decide (x4 = (0 : Int))) then
            bif (decide (x5 = (0 : Int))) then
              bif (!x6) then
                some (decide ((x7.length : Int) = (0 : Int)))
              else
                some false
            else
              some false
          else
            some false
        else
          (f_impl_MsgOk x4 x5 x6 x7).bind fun y468 =>
          some y468
noncomputable def C20 : Con := ⟨[(.B, true, [(.int .i64), (.int .i64), .bool, (.int .i64), (.int .i64), (.int .i64), .bool, (.sl R0)]), (.B, false, [(.int .i64)])], [(false, [.bool])], [(.int .i64), (.int .i64), .bool, (.int .i64), (.int .i64), (.int .i64), .bool, (.sl R0), (.int .i64)], [.bool], fun (p : Int × Int × Bool × Int × Int × Int × Bool × List Int × Int) => f_impl_PacketOk p.1 p.2.1 p.2.2.1 p.2.2.2.1 p.2.2.2.2.1 p.2.2.2.2.2.1 p.2.2.2.2.2.2.1 p.2.2.2.2.2.2.2.1 p.2.2.2.2.2.2.2.2⟩
noncomputable abbrev K20 : Cons := [(31, C31), (43, C43), (45, C45)]
noncomputable abbrev L20 : List (Nat × Loops) := []
abbrev Q20 : List (Nat × List (Int × Nat) × Nat) := []
noncomputable abbrev X20 : Nat → Ctx := ctxOf tb K20 L20 Q20
theorem E20 : ∀ x, funRun fs X20 6 20 C20 x = C20.fn x := fun x => by kernel_rfl
theorem B20 : ConB Tryz.prog 20 C20 := ConB.make FS MIX TY (cons := K20) (L := L20) (ptrs := Q20) ⟨S31, S43, S45, trivial⟩ trivial trivial rfl rfl E20
theorem S20 : ConS Tryz.prog 20 C20 := B20.call rfl
/-! impl.WorldOk$1: function 19 -/
noncomputable def f_impl_WorldOk_1 (x0 : Int) (x1 : Int) (x2 : Bool) (x3 : Int) (x4 : Int) (x5 : Int) (x6 : Bool) (x7 : List Int) (x8 : Int) (x9 : List (Int × (List (Int × List Int × Bool)) × (List (List Int × Int × List Bool × Bool × Int × Bool × Int × (List (Int × Bool)))) × (List (Int × (List (Int × Int × Bool × List Int)))) × List Int)) (x10 : List (Int × Int × Bool × Int × Int × Int × Bool × List Int)) : Option (Bool) :=
  (f_impl_PacketOk x0 x1 x2 x3 x4 x5 x6 x7 x8).bind fun y469 =>
  some (!y469)
noncomputable def C19 : Con := ⟨[(.B, true, [(.int .i64), (.int .i64), .bool, (.int .i64), (.int .i64), (.int .i64), .bool, (.sl R0)]), (.Q, false, [(.int .i64), (.sl R7), (.sl R8)])], [(false, [.bool])], [(.int .i64), (.int .i64), .bool, (.int .i64), (.int .i64), (.int .i64), .bool, (.sl R0), (.int .i64), (.sl R7), (.sl R8)], [.bool], fun (p : Int × Int × Bool × Int × Int × Int × Bool × List Int × Int × (List (Int × (List (Int × List Int × Bool)) × (List (List Int × Int × List Bool × Bool × Int × Bool × Int × (List (Int × Bool)))) × (List (Int × (List (Int × Int × Bool × List Int)))) × List Int)) × (List (Int × Int × Bool × Int × Int × Int × Bool × List Int))) => f_impl_WorldOk_1 p.1 p.2.1 p.2.2.1 p.2.2.2.1 p.2.2.2.2.1 p.2.2.2.2.2.1 p.2.2.2.2.2.2.1 p.2.2.2.2.2.2.2.1 p.2.2.2.2.2.2.2.2.1 p.2.2.2.2.2.2.2.2.2.1 p.2.2.2.2.2.2.2.2.2.2⟩
noncomputable abbrev K19 : Cons := [(20, C20)]
noncomputable abbrev L19 : List (Nat × Loops) := []
abbrev Q19 : List (Nat × List (Int × Nat) × Nat) := []
noncomputable abbrev X19 : Nat → Ctx := ctxOf tb K19 L19 Q19
theorem E19 : ∀ x, funG fs X19 6 19 C19 x = C19.fn x := fun x => by kernel_rfl
theorem B19 : ConG Tryz.prog 19 C19 := ConG.make FS MIX TY (cons := K19) (L := L19) (ptrs := Q19) ⟨S20, trivial⟩ trivial trivial rfl (by kernel_rfl) E19
theorem S19 : ConS Tryz.prog 19 C19 := B19.call (by kernel_rfl)
/-! impl.WorldOk: function 7 -/
noncomputable def f_impl_WorldOk.l1 : Nat → (List (Int × Int × Bool × Int × Int × Int × Bool × List Int)) → Int → Int → Int → Int → (List (Int × (List (Int × List Int × Bool)) × (List (List Int × Int × List Bool × Bool × Int × Bool × Int × (List (Int × Bool)))) × (List (Int × (List (Int × Int × Bool × List Int)))) × List Int)) → (List (Int × Int × Bool × Int × Int × Int × Bool × List Int)) → Option ((Int × Int × (List (Int × (List (Int × List Int × Bool)) × (List (List Int × Int × List Bool × Bool × Int × Bool × Int × (List (Int × Bool)))) × (List (Int × (List (Int × Int × Bool × List Int)))) × List Int)) × (List (Int × Int × Bool × Int × Int × Int × Bool × List Int))) ⊕ (Int × Int × (List (Int × (List (Int × List Int × Bool)) × (List (List Int × Int × List Bool × Bool × Int × Bool × Int × (List (Int × Bool)))) × (List (Int × (List (Int × Int × Bool × List Int)))) × List Int)) × (List (Int × Int × Bool × Int × Int × Int × Bool × List Int))))
  | 0, _, _, _, _, _, _, _ => none
  | n + 1, p482, p483, p484, p485, p486, p487, p488 =>
    bif (decide (p485 < p484)) then
      bif ((decide ((0 : Int) ≤ p485)) && (decide (p485 < (p482.length : Int)))) then
      (f_impl_WorldOk_1 ((p482.getD p485.toNat (0, 0, false, 0, 0, 0, false, [])).1) ((p482.getD p485.toNat (0, 0, false, 0, 0, 0, false, [])).2.1) ((p482.getD p485.toNat (0, 0, false, 0, 0, 0, false, [])).2.2.1) ((p482.getD p485.toNat (0, 0, false, 0, 0, 0, false, [])).2.2.2.1) ((p482.getD p485.toNat (0, 0, false, 0, 0, 0, false, [])).2.2.2.2.1) ((p482.getD p485.toNat (0, 0, false, 0, 0, 0, false, [])).2.2.2.2.2.1) ((p482.getD p485.toNat (0, 0, false, 0, 0, 0, false, [])).2.2.2.2.2.2.1) ((p482.getD p485.toNat (0, 0, false, 0, 0, 0, false, [])).2.2.2.2.2.2.2) p486 p487 p488).bind fun y489 =>
      bif y489 then
        some (.inl (p485, p486, p487, p488))
      else
        f_impl_WorldOk.l1 n p482 p483 p484 (IntKind.wrap .i64 (p485 + (1 : Int))) p486 p487 p488
      else none
    else
      some (.inr (p483, p486, p487, p488))
noncomputable def f_impl_WorldOk.l0 : Nat → Bool → (List (Int × (List (Int × List Int × Bool)) × (List (List Int × Int × List Bool × Bool × Int × Bool × Int × (List (Int × Bool)))) × (List (Int × (List (Int × Int × Bool × List Int)))) × List Int)) → Int → Int → Int → (List (Int × (List (Int × List Int × Bool)) × (List (List Int × Int × List Bool × Bool × Int × Bool × Int × (List (Int × Bool)))) × (List (Int × (List (Int × Int × Bool × List Int)))) × List Int)) → (List (Int × Int × Bool × Int × Int × Int × Bool × List Int)) → Option ((Bool) ⊕ (Bool × Int × (List (Int × (List (Int × List Int × Bool)) × (List (List Int × Int × List Bool × Bool × Int × Bool × Int × (List (Int × Bool)))) × (List (Int × (List (Int × Int × Bool × List Int)))) × List Int)) × (List (Int × Int × Bool × Int × Int × Int × Bool × List Int))))
  | 0, _, _, _, _, _, _, _ => none
  | n + 1, p471, p472, p473, p474, p475, p476, p477 =>
    bif (decide (p474 < p473)) then
      bif ((decide ((0 : Int) ≤ p474)) && (decide (p474 < (p472.length : Int)))) then
      (f_impl_NodeOk ((p472.getD p474.toNat (0, [], [], [], [])).1) ((p472.getD p474.toNat (0, [], [], [], [])).2.1) ((p472.getD p474.toNat (0, [], [], [], [])).2.2.1) ((p472.getD p474.toNat (0, [], [], [], [])).2.2.2.1) ((p472.getD p474.toNat (0, [], [], [], [])).2.2.2.2) p475).bind fun y478 =>
      bif (!y478) then
        some (.inl false)
      else
        bif (!(decide (((p472.getD p474.toNat (0, [], [], [], [])).1) = p474))) then
          some (.inl false)
        else
          f_impl_WorldOk.l0 n p471 p472 p473 (IntKind.wrap .i64 (p474 + (1 : Int))) p475 p476 p477
      else none
    else
      some (.inr (p471, p475, p476, p477))
noncomputable def f_impl_WorldOk (x0 : Int) (x1 : List (Int × (List (Int × List Int × Bool)) × (List (List Int × Int × List Bool × Bool × Int × Bool × Int × (List (Int × Bool)))) × (List (Int × (List (Int × Int × Bool × List Int)))) × List Int)) (x2 : List (Int × Int × Bool × Int × Int × Int × Bool × List Int)) : Option (Bool) :=
  (f_impl_from x0 1 4).bind fun y470 =>
  bif (!y470) then
    some false
  else
    bif (!(decide ((x1.length : Int) = x0))) then
      some false
    else
      bif (decide ((40 : Int) < (x2.length : Int))) then
        some false
      else
        (f_impl_WorldOk.l0 N false x1 (x1.length : Int) 0 x0 x1 x2).bind fun r479 =>
        cs r479 (fun a480 =>
          some a480) (fun b481 =>
          (f_impl_WorldOk.l1 N b481.2.2.2 0 (b481.2.2.2.length : Int) 0 b481.2.1 b481.2.2.1 b481.2.2.2).bind fun r490 =>
          cs r490 (fun a491 =>
            some (!(decide ((0 : Int) ≤ a491.1)))) (fun b492 =>
            some true))
noncomputable def C7 : Con := ⟨[(.B, true, [(.int .i64), (.sl R7), (.sl R8)])], [(false, [.bool])], [(.int .i64), (.sl R7), (.sl R8)], [.bool], fun (p : Int × (List (Int × (List (Int × List Int × Bool)) × (List (List Int × Int × List Bool × Bool × Int × Bool × Int × (List (Int × Bool)))) × (List (Int × (List (Int × Int × Bool × List Int)))) × List Int)) × (List (Int × Int × Bool × Int × Int × Int × Bool × List Int))) => f_impl_WorldOk p.1 p.2.1 p.2.2⟩
noncomputable def f_impl_WorldOk.l0.c : LoopCon := ⟨1000, 6, [1, 2, 24, 25, 26], ⟨[(1, .ptr 1000 0), (2, .bool false), (24, .bor none R7 []), (25, .int .i64 0), (26, .int .i64 0)], [(1000, .box [.int .i64 0, .bor none R7 [], .bor none R8 []])], 1001⟩, [.bool, (.sl R7), (.int .i64), (.int .i64), (.int .i64), (.sl R7), (.sl R8)], [⟨.ret, [2], ⟨[(2, .bool false)], [], 1000⟩, [.bool]⟩, ⟨.exit 0, [1, 2], ⟨[(1, .ptr 1000 0), (2, .bool false)], [(1000, .box [.int .i64 0, .bor none R7 [], .bor none R8 []])], 1001⟩, [.bool, (.int .i64), (.sl R7), (.sl R8)]⟩], fun (p : Bool × (List (Int × (List (Int × List Int × Bool)) × (List (List Int × Int × List Bool × Bool × Int × Bool × Int × (List (Int × Bool)))) × (List (Int × (List (Int × Int × Bool × List Int)))) × List Int)) × Int × Int × Int × (List (Int × (List (Int × List Int × Bool)) × (List (List Int × Int × List Bool × Bool × Int × Bool × Int × (List (Int × Bool)))) × (List (Int × (List (Int × Int × Bool × List Int)))) × List Int)) × (List (Int × Int × Bool × Int × Int × Int × Bool × List Int))) => f_impl_WorldOk.l0 N p.1 p.2.1 p.2.2.1 p.2.2.2.1 p.2.2.2.2.1 p.2.2.2.2.2.1 p.2.2.2.2.2.2⟩
noncomputable def f_impl_WorldOk.l1.c : LoopCon := ⟨1193, 4, [0, 1, 4, 7, 8], ⟨[(0, .bor none R8 []), (1, .func 19 [.ptr 1000 0]), (4, .int .i64 0), (7, .int .i64 0), (8, .int .i64 0)], [(1000, .box [.int .i64 0, .bor none R7 [], .bor none R8 []])], 1193⟩, [(.sl R8), (.int .i64), (.int .i64), (.int .i64), (.int .i64), (.sl R7), (.sl R8)], [⟨.ret, [4], ⟨[(4, .int .i64 0)], [(1000, .box [.int .i64 0, .bor none R7 [], .bor none R8 []])], 1193⟩, [(.int .i64), (.int .i64), (.sl R7), (.sl R8)]⟩, ⟨.exit 0, [4], ⟨[(4, .int .i64 0)], [(1000, .box [.int .i64 0, .bor none R7 [], .bor none R8 []])], 1193⟩, [(.int .i64), (.int .i64), (.sl R7), (.sl R8)]⟩], fun (p : (List (Int × Int × Bool × Int × Int × Int × Bool × List Int)) × Int × Int × Int × Int × (List (Int × (List (Int × List Int × Bool)) × (List (List Int × Int × List Bool × Bool × Int × Bool × Int × (List (Int × Bool)))) × (List (Int × (List (Int × Int × Bool × List Int)))) × List Int)) × (List (Int × Int × Bool × Int × Int × Int × Bool × List Int))) => f_impl_WorldOk.l1 N p.1 p.2.1 p.2.2.1 p.2.2.2.1 p.2.2.2.2.1 p.2.2.2.2.2.1 p.2.2.2.2.2.2⟩
noncomputable abbrev K7 : Cons := [(16, C16), (17, C17), (19, C19)]
noncomputable abbrev L7 : List (Nat × Loops) := [(7, [(4, f_impl_WorldOk.l0.c)]), (44, [(2, f_impl_WorldOk.l1.c)])]
abbrev Q7 : List (Nat × List (Int × Nat) × Nat) := []
noncomputable abbrev X7 : Nat → Ctx := ctxOf tb K7 L7 Q7
theorem f_impl_WorldOk.l0.ok : ∀ n p, (fun (p : Bool × (List (Int × (List (Int × List Int × Bool)) × (List (List Int × Int × List Bool × Bool × Int × Bool × Int × (List (Int × Bool)))) × (List (Int × (List (Int × Int × Bool × List Int)))) × List Int)) × Int × Int × Int × (List (Int × (List (Int × List Int × Bool)) × (List (List Int × Int × List Bool × Bool × Int × Bool × Int × (List (Int × Bool)))) × (List (Int × (List (Int × Int × Bool × List Int)))) × List Int)) × (List (Int × Int × Bool × Int × Int × Int × Bool × List Int))) => f_impl_WorldOk.l0 n p.1 p.2.1 p.2.2.1 p.2.2.2.1 p.2.2.2.2.1 p.2.2.2.2.2.1 p.2.2.2.2.2.2) p = iterD (roundOf fs X7 6 7 4 false f_impl_WorldOk.l0.c) n p :=
  iter_of (l := fun n => fun (p : Bool × (List (Int × (List (Int × List Int × Bool)) × (List (List Int × Int × List Bool × Bool × Int × Bool × Int × (List (Int × Bool)))) × (List (Int × (List (Int × Int × Bool × List Int)))) × List Int)) × Int × Int × Int × (List (Int × (List (Int × List Int × Bool)) × (List (List Int × Int × List Bool × Bool × Int × Bool × Int × (List (Int × Bool)))) × (List (Int × (List (Int × Int × Bool × List Int)))) × List Int)) × (List (Int × Int × Bool × Int × Int × Int × Bool × List Int))) => f_impl_WorldOk.l0 n p.1 p.2.1 p.2.2.1 p.2.2.2.1 p.2.2.2.2.1 p.2.2.2.2.2.1 p.2.2.2.2.2.2) (fun _ => rfl) (fun n p => by kernel_rfl)
theorem f_impl_WorldOk.l1.ok : ∀ n p, (fun (p : (List (Int × Int × Bool × Int × Int × Int × Bool × List Int)) × Int × Int × Int × Int × (List (Int × (List (Int × List Int × Bool)) × (List (List Int × Int × List Bool × Bool × Int × Bool × Int × (List (Int × Bool)))) × (List (Int × (List (Int × Int × Bool × List Int)))) × List Int)) × (List (Int × Int × Bool × Int × Int × Int × Bool × List Int))) => f_impl_WorldOk.l1 n p.1 p.2.1 p.2.2.1 p.2.2.2.1 p.2.2.2.2.1 p.2.2.2.2.2.1 p.2.2.2.2.2.2) p = iterD (roundOf fs X7 4 44 2 true f_impl_WorldOk.l1.c) n p :=
  iter_of (l := fun n => fun (p : (List (Int × Int × Bool × Int × Int × Int × Bool × List Int)) × Int × Int × Int × Int × (List (Int × (List (Int × List Int × Bool)) × (List (List Int × Int × List Bool × Bool × Int × Bool × Int × (List (Int × Bool)))) × (List (Int × (List (Int × Int × Bool × List Int)))) × List Int)) × (List (Int × Int × Bool × Int × Int × Int × Bool × List Int))) => f_impl_WorldOk.l1 n p.1 p.2.1 p.2.2.1 p.2.2.2.1 p.2.2.2.2.1 p.2.2.2.2.2.1 p.2.2.2.2.2.2) (fun _ => rfl) (fun n p => by kernel_rfl)
theorem E7 : ∀ x, funRun fs X7 6 7 C7 x = C7.fn x := fun x => by kernel_rfl
theorem B7 : ConB Tryz.prog 7 C7 := ConB.make FS MIX TY (cons := K7) (L := L7) (ptrs := Q7) ⟨S16, S17, S19, trivial⟩ trivial ⟨⟨⟨N, fun p => f_impl_WorldOk.l0.ok N p⟩, trivial⟩, ⟨⟨N, fun p => f_impl_WorldOk.l1.ok N p⟩, trivial⟩, trivial⟩ rfl rfl E7
theorem S7 : ConS Tryz.prog 7 C7 := B7.call rfl
/-! laws.eqIntS: function 92 -/
noncomputable def f_laws_eqIntS.l0 : Nat → (List Int) → (List Int) → Bool → Int → Option ((Bool) ⊕ (Bool))
  | 0, _, _, _, _ => none
  | n + 1, p493, p494, p495, p496 =>
    bif (decide (p496 < (p493.length : Int))) then
      bif ((decide ((0 : Int) ≤ p496)) && (decide (p496 < (p493.length : Int)))) then
      bif ((decide ((0 : Int) ≤ p496)) && (decide (p496 < (p494.length : Int)))) then
      bif (!(decide ((p493.getD p496.toNat 0) = (p494.getD p496.toNat 0)))) then
        some (.inl false)
      else
        f_laws_eqIntS.l0 n p493 p494 p495 (IntKind.wrap .i64 (p496 + (1 : Int)))
      else none
      else none
    else
      some (.inr p495)
noncomputable def f_laws_eqIntS (x0 : List Int) (x1 : List Int) : Option (Bool) :=
  bif (!(decide ((x0.length : Int) = (x1.length : Int)))) then
    some false
  else
    (f_laws_eqIntS.l0 N x0 x1 false 0).bind fun r497 =>
    cs r497 (fun a498 =>
      some a498) (fun b499 =>
      some true)
noncomputable def C92 : Con := ⟨[(.B, false, [(.sl R0)]), (.B, false, [(.sl R0)])], [(false, [.bool])], [(.sl R0), (.sl R0)], [.bool], fun (p : List Int × List Int) => f_laws_eqIntS p.1 p.2⟩
noncomputable def f_laws_eqIntS.l0.c : LoopCon := ⟨1000, 6, [0, 1, 4, 5], ⟨[(0, .bor none R0 []), (1, .bor none R0 []), (4, .bool false), (5, .int .i64 0)], [], 1000⟩, [(.sl R0), (.sl R0), .bool, (.int .i64)], [⟨.ret, [4], ⟨[(4, .bool false)], [], 1000⟩, [.bool]⟩, ⟨.exit 0, [4], ⟨[(4, .bool false)], [], 1000⟩, [.bool]⟩], fun (p : List Int × List Int × Bool × Int) => f_laws_eqIntS.l0 N p.1 p.2.1 p.2.2.1 p.2.2.2⟩
noncomputable abbrev K92 : Cons := []
noncomputable abbrev L92 : List (Nat × Loops) := [(92, [(4, f_laws_eqIntS.l0.c)])]
abbrev Q92 : List (Nat × List (Int × Nat) × Nat) := []
noncomputable abbrev X92 : Nat → Ctx := ctxOf tb K92 L92 Q92
theorem f_laws_eqIntS.l0.ok : ∀ n p, (fun (p : List Int × List Int × Bool × Int) => f_laws_eqIntS.l0 n p.1 p.2.1 p.2.2.1 p.2.2.2) p = iterD (roundOf fs X92 6 92 4 false f_laws_eqIntS.l0.c) n p :=
  iter_of (l := fun n => fun (p : List Int × List Int × Bool × Int) => f_laws_eqIntS.l0 n p.1 p.2.1 p.2.2.1 p.2.2.2) (fun _ => rfl) (fun n p => by kernel_rfl)
theorem E92 : ∀ x, funRun fs X92 6 92 C92 x = C92.fn x := fun x => by kernel_rfl
theorem B92 : ConB Tryz.prog 92 C92 := ConB.make FS MIX TY (cons := K92) (L := L92) (ptrs := Q92) trivial trivial ⟨⟨⟨N, fun p => f_laws_eqIntS.l0.ok N p⟩, trivial⟩, trivial⟩ rfl rfl E92
theorem S92 : ConS Tryz.prog 92 C92 := B92.call rfl
/-! laws.eqFrame: function 88 -/
noncomputable def f_laws_eqFrame (x0 : Int) (x1 : List Int) (x2 : Bool) (x3 : Int) (x4 : List Int) (x5 : Bool) : Option (Bool) :=
  bif (!(decide (x0 = x3))) then
    some false
  else
    (f_laws_eqIntS x1 x4).bind fun y500 =>
    bif (!y500) then
      some false
    else
      bif (!(x2 == x5)) then
        some false
      else
        some true
noncomputable def C88 : Con := ⟨[(.B, true, [(.int .i64), (.sl R0), .bool]), (.B, true, [(.int .i64), (.sl R0), .bool])], [(false, [.bool])], [(.int .i64), (.sl R0), .bool, (.int .i64), (.sl R0), .bool], [.bool], fun (p : Int × List Int × Bool × Int × List Int × Bool) => f_laws_eqFrame p.1 p.2.1 p.2.2.1 p.2.2.2.1 p.2.2.2.2.1 p.2.2.2.2.2⟩
noncomputable abbrev K88 : Cons := [(92, C92)]
noncomputable abbrev L88 : List (Nat × Loops) := []
abbrev Q88 : List (Nat × List (Int × Nat) × Nat) := []
noncomputable abbrev X88 : Nat → Ctx := ctxOf tb K88 L88 Q88
theorem E88 : ∀ x, funRun fs X88 6 88 C88 x = C88.fn x := fun x => by kernel_rfl
theorem B88 : ConB Tryz.prog 88 C88 := ConB.make FS MIX TY (cons := K88) (L := L88) (ptrs := Q88) ⟨S92, trivial⟩ trivial trivial rfl rfl E88
theorem S88 : ConS Tryz.prog 88 C88 := B88.call rfl
/-! laws.eqFrameS: function 69 -/
noncomputable def f_laws_eqFrameS.l0 : Nat → (List (Int × List Int × Bool)) → (List (Int × List Int × Bool)) → Bool → Int → Option ((Bool) ⊕ (Bool))
  | 0, _, _, _, _ => none
  | n + 1, p501, p502, p503, p504 =>
    bif (decide (p504 < (p501.length : Int))) then
      bif ((decide ((0 : Int) ≤ p504)) && (decide (p504 < (p501.length : Int)))) then
      bif ((decide ((0 : Int) ≤ p504)) && (decide (p504 < (p502.length : Int)))) then
      (f_laws_eqFrame ((p501.getD p504.toNat (0, [], false)).1) ((p501.getD p504.toNat (0, [], false)).2.1) ((p501.getD p504.toNat (0, [], false)).2.2) ((p502.getD p504.toNat (0, [], false)).1) ((p502.getD p504.toNat (0, [], false)).2.1) ((p502.getD p504.toNat (0, [], false)).2.2)).bind fun y505 =>
      bif (!y505) then
        some (.inl false)
      else
        f_laws_eqFrameS.l0 n p501 p502 p503 (IntKind.wrap .i64 (p504 + (1 : Int)))
      else none
      else none
    else
      some (.inr p503)
noncomputable def f_laws_eqFrameS (x0 : List (Int × List Int × Bool)) (x1 : List (Int × List Int × Bool)) : Option (Bool) :=
  bif (!(decide ((x0.length : Int) = (x1.length : Int)))) then
    some false
  else
    (f_laws_eqFrameS.l0 N x0 x1 false 0).bind fun r506 =>
    cs r506 (fun a507 =>
      some a507) (fun b508 =>
      some true)
noncomputable def C69 : Con := ⟨[(.B, false, [(.sl R1)]), (.B, false, [(.sl R1)])], [(false, [.bool])], [(.sl R1), (.sl R1)], [.bool], fun (p : (List (Int × List Int × Bool)) × (List (Int × List Int × Bool))) => f_laws_eqFrameS p.1 p.2⟩
noncomputable def f_laws_eqFrameS.l0.c : LoopCon := ⟨1000, 6, [0, 1, 4, 5], ⟨[(0, .bor none R1 []), (1, .bor none R1 []), (4, .bool false), (5, .int .i64 0)], [], 1000⟩, [(.sl R1), (.sl R1), .bool, (.int .i64)], [⟨.ret, [4], ⟨[(4, .bool false)], [], 1000⟩, [.bool]⟩, ⟨.exit 0, [4], ⟨[(4, .bool false)], [], 1000⟩, [.bool]⟩], fun (p : (List (Int × List Int × Bool)) × (List (Int × List Int × Bool)) × Bool × Int) => f_laws_eqFrameS.l0 N p.1 p.2.1 p.2.2.1 p.2.2.2⟩
noncomputable abbrev K69 : Cons := [(88, C88)]
noncomputable abbrev L69 : List (Nat × Loops) := [(69, [(4, f_laws_eqFrameS.l0.c)])]
abbrev Q69 : List (Nat × List (Int × Nat) × Nat) := []
noncomputable abbrev X69 : Nat → Ctx := ctxOf tb K69 L69 Q69
theorem f_laws_eqFrameS.l0.ok : ∀ n p, (fun (p : (List (Int × List Int × Bool)) × (List (Int × List Int × Bool)) × Bool × Int) => f_laws_eqFrameS.l0 n p.1 p.2.1 p.2.2.1 p.2.2.2) p = iterD (roundOf fs X69 6 69 4 false f_laws_eqFrameS.l0.c) n p :=
  iter_of (l := fun n => fun (p : (List (Int × List Int × Bool)) × (List (Int × List Int × Bool)) × Bool × Int) => f_laws_eqFrameS.l0 n p.1 p.2.1 p.2.2.1 p.2.2.2) (fun _ => rfl) (fun n p => by kernel_rfl)
theorem E69 : ∀ x, funRun fs X69 6 69 C69 x = C69.fn x := fun x => by kernel_rfl
theorem B69 : ConB Tryz.prog 69 C69 := ConB.make FS MIX TY (cons := K69) (L := L69) (ptrs := Q69) ⟨S88, trivial⟩ trivial ⟨⟨⟨N, fun p => f_laws_eqFrameS.l0.ok N p⟩, trivial⟩, trivial⟩ rfl rfl E69
theorem S69 : ConS Tryz.prog 69 C69 := B69.call rfl
/-! laws.eqBoolS: function 101 -/
noncomputable def f_laws_eqBoolS.l0 : Nat → (List Bool) → (List Bool) → Bool → Int → Option ((Bool) ⊕ (Bool))
  | 0, _, _, _, _ => none
  | n + 1, p509, p510, p511, p512 =>
    bif (decide (p512 < (p509.length : Int))) then
      bif ((decide ((0 : Int) ≤ p512)) && (decide (p512 < (p509.length : Int)))) then
      bif ((decide ((0 : Int) ≤ p512)) && (decide (p512 < (p510.length : Int)))) then
      bif (!((p509.getD p512.toNat false) == (p510.getD p512.toNat false))) then
        some (.inl false)
      else
        f_laws_eqBoolS.l0 n p509 p510 p511 (IntKind.wrap .i64 (p512 + (1 : Int)))
      else none
      else none
    else
      some (.inr p511)
noncomputable def f_laws_eqBoolS (x0 : List Bool) (x1 : List Bool) : Option (Bool) :=
  bif (!(decide ((x0.length : Int) = (x1.length : Int)))) then
    some false
  else
    (f_laws_eqBoolS.l0 N x0 x1 false 0).bind fun r513 =>
    cs r513 (fun a514 =>
      some a514) (fun b515 =>
      some true)
noncomputable def C101 : Con := ⟨[(.B, false, [(.sl R2)]), (.B, false, [(.sl R2)])], [(false, [.bool])], [(.sl R2), (.sl R2)], [.bool], fun (p : List Bool × List Bool) => f_laws_eqBoolS p.1 p.2⟩
noncomputable def f_laws_eqBoolS.l0.c : LoopCon := ⟨1000, 6, [0, 1, 4, 5], ⟨[(0, .bor none R2 []), (1, .bor none R2 []), (4, .bool false), (5, .int .i64 0)], [], 1000⟩, [(.sl R2), (.sl R2), .bool, (.int .i64)], [⟨.ret, [4], ⟨[(4, .bool false)], [], 1000⟩, [.bool]⟩, ⟨.exit 0, [4], ⟨[(4, .bool false)], [], 1000⟩, [.bool]⟩], fun (p : List Bool × List Bool × Bool × Int) => f_laws_eqBoolS.l0 N p.1 p.2.1 p.2.2.1 p.2.2.2⟩
noncomputable abbrev K101 : Cons := []
noncomputable abbrev L101 : List (Nat × Loops) := [(101, [(4, f_laws_eqBoolS.l0.c)])]
abbrev Q101 : List (Nat × List (Int × Nat) × Nat) := []
noncomputable abbrev X101 : Nat → Ctx := ctxOf tb K101 L101 Q101
theorem f_laws_eqBoolS.l0.ok : ∀ n p, (fun (p : List Bool × List Bool × Bool × Int) => f_laws_eqBoolS.l0 n p.1 p.2.1 p.2.2.1 p.2.2.2) p = iterD (roundOf fs X101 6 101 4 false f_laws_eqBoolS.l0.c) n p :=
  iter_of (l := fun n => fun (p : List Bool × List Bool × Bool × Int) => f_laws_eqBoolS.l0 n p.1 p.2.1 p.2.2.1 p.2.2.2) (fun _ => rfl) (fun n p => by kernel_rfl)
theorem E101 : ∀ x, funRun fs X101 6 101 C101 x = C101.fn x := fun x => by kernel_rfl
theorem B101 : ConB Tryz.prog 101 C101 := ConB.make FS MIX TY (cons := K101) (L := L101) (ptrs := Q101) trivial trivial ⟨⟨⟨N, fun p => f_laws_eqBoolS.l0.ok N p⟩, trivial⟩, trivial⟩ rfl rfl E101
theorem S101 : ConS Tryz.prog 101 C101 := B101.call rfl
/-! laws.eqWait: function 102 -/
noncomputable def f_laws_eqWait (x0 : Int) (x1 : Bool) (x2 : Int) (x3 : Bool) : Option (Bool) :=
  bif (!(decide (x0 = x2))) then
    some false
  else
    bif (!(x1 == x3)) then
      some false
    else
      some true
noncomputable def C102 : Con := ⟨[(.B, true, [(.int .i64), .bool]), (.B, true, [(.int .i64), .bool])], [(false, [.bool])], [(.int .i64), .bool, (.int .i64), .bool], [.bool], fun (p : Int × Bool × Int × Bool) => f_laws_eqWait p.1 p.2.1 p.2.2.1 p.2.2.2⟩
noncomputable abbrev K102 : Cons := []
noncomputable abbrev L102 : List (Nat × Loops) := []
abbrev Q102 : List (Nat × List (Int × Nat) × Nat) := []
noncomputable abbrev X102 : Nat → Ctx := ctxOf tb K102 L102 Q102
theorem E102 : ∀ x, funRun fs X102 6 102 C102 x = C102.fn x := fun x => by kernel_rfl
theorem B102 : ConB Tryz.prog 102 C102 := ConB.make FS MIX TY (cons := K102) (L := L102) (ptrs := Q102) trivial trivial trivial rfl rfl E102
theorem S102 : ConS Tryz.prog 102 C102 := B102.call rfl
/-! laws.eqWaitS: function 103 -/
noncomputable def f_laws_eqWaitS.l0 : Nat → (List (Int × Bool)) → (List (Int × Bool)) → Bool → Int → Option ((Bool) ⊕ (Bool))
  | 0, _, _, _, _ => none
  | n + 1, p516, p517, p518, p519 =>
    bif (decide (p519 < (p516.length : Int))) then
      bif ((decide ((0 : Int) ≤ p519)) && (decide (p519 < (p516.length : Int)))) then
      bif ((decide ((0 : Int) ≤ p519)) && (decide (p519 < (p517.length : Int)))) then
      (f_laws_eqWait ((p516.getD p519.toNat (0, false)).1) ((p516.getD p519.toNat (0, false)).2) ((p517.getD p519.toNat (0, false)).1) ((p517.getD p519.toNat (0, false)).2)).bind fun y520 =>
      bif (!y520) then
        some (.inl false)
      else
        f_laws_eqWaitS.l0 n p516 p517 p518 (IntKind.wrap .i64 (p519 + (1 : Int)))
      else none
      else none
    else
      some (.inr p518)
noncomputable def f_laws_eqWaitS (x0 : List (Int × Bool)) (x1 : List (Int × Bool)) : Option (Bool) :=
  bif (!(decide ((x0.length : Int) = (x1.length : Int)))) then
    some false
  else
    (f_laws_eqWaitS.l0 N x0 x1 false 0).bind fun r521 =>
    cs r521 (fun a522 =>
      some a522) (fun b523 =>
      some true)
noncomputable def C103 : Con := ⟨[(.B, false, [(.sl R3)]), (.B, false, [(.sl R3)])], [(false, [.bool])], [(.sl R3), (.sl R3)], [.bool], fun (p : (List (Int × Bool)) × (List (Int × Bool))) => f_laws_eqWaitS p.1 p.2⟩
noncomputable def f_laws_eqWaitS.l0.c : LoopCon := ⟨1000, 6, [0, 1, 4, 5], ⟨[(0, .bor none R3 []), (1, .bor none R3 []), (4, .bool false), (5, .int .i64 0)], [], 1000⟩, [(.sl R3), (.sl R3), .bool, (.int .i64)], [⟨.ret, [4], ⟨[(4, .bool false)], [], 1000⟩, [.bool]⟩, ⟨.exit 0, [4], ⟨[(4, .bool false)], [], 1000⟩, [.bool]⟩], fun (p : (List (Int × Bool)) × (List (Int × Bool)) × Bool × Int) => f_laws_eqWaitS.l0 N p.1 p.2.1 p.2.2.1 p.2.2.2⟩
noncomputable abbrev K103 : Cons := [(102, C102)]
noncomputable abbrev L103 : List (Nat × Loops) := [(103, [(4, f_laws_eqWaitS.l0.c)])]
abbrev Q103 : List (Nat × List (Int × Nat) × Nat) := []
noncomputable abbrev X103 : Nat → Ctx := ctxOf tb K103 L103 Q103
theorem f_laws_eqWaitS.l0.ok : ∀ n p, (fun (p : (List (Int × Bool)) × (List (Int × Bool)) × Bool × Int) => f_laws_eqWaitS.l0 n p.1 p.2.1 p.2.2.1 p.2.2.2) p = iterD (roundOf fs X103 6 103 4 false f_laws_eqWaitS.l0.c) n p :=
  iter_of (l := fun n => fun (p : (List (Int × Bool)) × (List (Int × Bool)) × Bool × Int) => f_laws_eqWaitS.l0 n p.1 p.2.1 p.2.2.1 p.2.2.2) (fun _ => rfl) (fun n p => by kernel_rfl)
theorem E103 : ∀ x, funRun fs X103 6 103 C103 x = C103.fn x := fun x => by kernel_rfl
theorem B103 : ConB Tryz.prog 103 C103 := ConB.make FS MIX TY (cons := K103) (L := L103) (ptrs := Q103) ⟨S102, trivial⟩ trivial ⟨⟨⟨N, fun p => f_laws_eqWaitS.l0.ok N p⟩, trivial⟩, trivial⟩ rfl rfl E103
theorem S103 : ConS Tryz.prog 103 C103 := B103.call rfl
/-! laws.eqHome: function 89 -/
noncomputable def f_laws_eqHome (x0 : List Int) (x1 : Int) (x2 : List Bool) (x3 : Bool) (x4 : Int) (x5 : Bool) (x6 : Int) (x7 : List (Int × Bool)) (x8 : List Int) (x9 : Int) (x10 : List Bool) (x11 : Bool) (x12 : Int) (x13 : Bool) (x14 : Int) (x15 : List (Int × Bool)) : Option (Bool) :=
  (f_laws_eqIntS x0 x8).bind fun y524 =>
  bif (!y524) then
    some false
  else
    bif (!(decide (x1 = x9))) then
      some false
    else
      (f_laws_eqBoolS x2 x10).bind fun y525 =>
      bif (!y525) then
        some false
      else
        bif (!(x3 == x11)) then
          some false
        else
          (f_laws_eqWait x4 x5 x12 x13).bind fun y526 =>
          bif (!y526) then
            some false
          else
            bif (!(decide (x6 = x14))) then
              some false
            else
              (f_laws_eqWaitS x7 x15).bind fun y527 =>
              bif (!y527) then
                some false
              else
                some true
noncomputable def C89 : Con := ⟨[(.B, true, [(.sl R0), (.int .i64), (.sl R2), .bool, (.int .i64), .bool, (.int .i64), (.sl R3)]), (.B, true, [(.sl R0), (.int .i64), (.sl R2), .bool, (.int .i64), .bool, (.int .i64), (.sl R3)])], [(false, [.bool])], [(.sl R0), (.int .i64), (.sl R2), .bool, (.int .i64), .bool, (.int .i64), (.sl R3), (.sl R0), (.int .i64), (.sl R2), .bool, (.int .i64), .bool, (.int .i64), (.sl R3)], [.bool], fun (p : List Int × Int × List Bool × Bool × Int × Bool × Int × (List (Int × Bool)) × List Int × Int × List Bool × Bool × Int × Bool × Int × (List (Int × Bool))) => f_laws_eqHome p.1 p.2.1 p.2.2.1 p.2.2.2.1 p.2.2.2.2.1 p.2.2.2.2.2.1 p.2.2.2.2.2.2.1 p.2.2.2.2.2.2.2.1 p.2.2.2.2.2.2.2.2.1 p.2.2.2.2.2.2.2.2.2.1 p.2.2.2.2.2.2.2.2.2.2.1 p.2.2.2.2.2.2.2.2.2.2.2.1 p.2.2.2.2.2.2.2.2.2.2.2.2.1 p.2.2.2.2.2.2.2.2.2.2.2.2.2.1 p.2.2.2.2.2.2.2.2.2.2.2.2.2.2.1 p.2.2.2.2.2.2.2.2.2.2.2.2.2.2.2⟩
noncomputable abbrev K89 : Cons := [(92, C92), (101, C101), (102, C102), (103, C103)]
noncomputable abbrev L89 : List (Nat × Loops) := []
abbrev Q89 : List (Nat × List (Int × Nat) × Nat) := []
noncomputable abbrev X89 : Nat → Ctx := ctxOf tb K89 L89 Q89
theorem E89 : ∀ x, funRun fs X89 6 89 C89 x = C89.fn x := fun x => by kernel_rfl
theorem B89 : ConB Tryz.prog 89 C89 := ConB.make FS MIX TY (cons := K89) (L := L89) (ptrs := Q89) ⟨S92, S101, S102, S103, trivial⟩ trivial trivial rfl rfl E89
theorem S89 : ConS Tryz.prog 89 C89 := B89.call rfl
/-! laws.eqHomeS: function 70 -/
noncomputable def f_laws_eqHomeS.l0 : Nat → (List (List Int × Int × List Bool × Bool × Int × Bool × Int × (List (Int × Bool)))) → (List (List Int × Int × List Bool × Bool × Int × Bool × Int × (List (Int × Bool)))) → Bool → Int → Option ((Bool) ⊕ (Bool))
  | 0, _, _, _, _ => none
  | n + 1, p528, p529, p530, p531 =>
    bif (decide (p531 < (p528.length : Int))) then
      bif ((decide ((0 : Int) ≤ p531)) && (decide (p531 < (p528.length : Int)))) then
      bif ((decide ((0 : Int) ≤ p531)) && (decide (p531 < (p529.length : Int)))) then
      (f_laws_eqHome ((p528.getD p531.toNat ([], 0, [], false, 0, false, 0, [])).1) ((p528.getD p531.toNat ([], 0, [], false, 0, false, 0, [])).2.1) ((p528.getD p531.toNat ([], 0, [], false, 0, false, 0, [])).2.2.1) ((p528.getD p531.toNat ([], 0, [], false, 0, false, 0, [])).2.2.2.1) ((p528.getD p531.toNat ([], 0, [], false, 0, false, 0, [])).2.2.2.2.1) ((p528.getD p531.toNat ([], 0, [], false, 0, false, 0, [])).2.2.2.2.2.1) ((p528.getD p531.toNat ([], 0, [], false, 0, false, 0, [])).2.2.2.2.2.2.1) ((p528.getD p531.toNat ([], 0, [], false, 0, false, 0, [])).2.2.2.2.2.2.2) ((p529.getD p531.toNat ([], 0, [], false, 0, false, 0, [])).1) ((p529.getD p531.toNat ([], 0, [], false, 0, false, 0, [])).2.1) ((p529.getD p531.toNat ([], 0, [], false, 0, false, 0, [])).2.2.1) ((p529.getD p531.toNat ([], 0, [], false, 0, false, 0, [])).2.2.2.1) ((p529.getD p531.toNat ([], 0, [], false, 0, false, 0, [])).2.2.2.2.1) ((p529.getD p531.toNat ([], 0, [], false, 0, false, 0, [])).2.2.2.2.2.1) ((p529.getD p531.toNat ([], 0, [], false, 0, false, 0, [])).2.2.2.2.2.2.1) ((p529.getD p531.toNat ([], 0, [], false, 0, false, 0, [])).2.2.2.2.2.2.2)).bind fun y532 =>
      bif (!y532) then
        some (.inl false)
      else
        f_laws_eqHomeS.l0 n p528 p529 p530 (IntKind.wrap .i64 (p531 + (1 : Int)))
      else none
      else none
    else
      some (.inr p530)
noncomputable def f_laws_eqHomeS (x0 : List (List Int × Int × List Bool × Bool × Int × Bool × Int × (List (Int × Bool)))) (x1 : List (List Int × Int × List Bool × Bool × Int × Bool × Int × (List (Int × Bool)))) : Option (Bool) :=
  bif (!(decide ((x0.length : Int) = (x1.length : Int)))) then
    some false
  else
    (f_laws_eqHomeS.l0 N x0 x1 false 0).bind fun r533 =>
    cs r533 (fun a534 =>
      some a534) (fun b535 =>
      some true)
noncomputable def C70 : Con := ⟨[(.B, false, [(.sl R4)]), (.B, false, [(.sl R4)])], [(false, [.bool])], [(.sl R4), (.sl R4)], [.bool], fun (p : (List (List Int × Int × List Bool × Bool × Int × Bool × Int × (List (Int × Bool)))) × (List (List Int × Int × List Bool × Bool × Int × Bool × Int × (List (Int × Bool))))) => f_laws_eqHomeS p.1 p.2⟩
noncomputable def f_laws_eqHomeS.l0.c : LoopCon := ⟨1000, 6, [0, 1, 4, 5], ⟨[(0, .bor none R4 []), (1, .bor none R4 []), (4, .bool false), (5, .int .i64 0)], [], 1000⟩, [(.sl R4), (.sl R4), .bool, (.int .i64)], [⟨.ret, [4], ⟨[(4, .bool false)], [], 1000⟩, [.bool]⟩, ⟨.exit 0, [4], ⟨[(4, .bool false)], [], 1000⟩, [.bool]⟩], fun (p : (List (List Int × Int × List Bool × Bool × Int × Bool × Int × (List (Int × Bool)))) × (List (List Int × Int × List Bool × Bool × Int × Bool × Int × (List (Int × Bool)))) × Bool × Int) => f_laws_eqHomeS.l0 N p.1 p.2.1 p.2.2.1 p.2.2.2⟩
noncomputable abbrev K70 : Cons := [(89, C89)]
noncomputable abbrev L70 : List (Nat × Loops) := [(70, [(4, f_laws_eqHomeS.l0.c)])]
abbrev Q70 : List (Nat × List (Int × Nat) × Nat) := []
noncomputable abbrev X70 : Nat → Ctx := ctxOf tb K70 L70 Q70
theorem f_laws_eqHomeS.l0.ok : ∀ n p, (fun (p : (List (List Int × Int × List Bool × Bool × Int × Bool × Int × (List (Int × Bool)))) × (List (List Int × Int × List Bool × Bool × Int × Bool × Int × (List (Int × Bool)))) × Bool × Int) => f_laws_eqHomeS.l0 n p.1 p.2.1 p.2.2.1 p.2.2.2) p = iterD (roundOf fs X70 6 70 4 false f_laws_eqHomeS.l0.c) n p :=
  iter_of (l := fun n => fun (p : (List (List Int × Int × List Bool × Bool × Int × Bool × Int × (List (Int × Bool)))) × (List (List Int × Int × List Bool × Bool × Int × Bool × Int × (List (Int × Bool)))) × Bool × Int) => f_laws_eqHomeS.l0 n p.1 p.2.1 p.2.2.1 p.2.2.2) (fun _ => rfl) (fun n p => by kernel_rfl)
theorem E70 : ∀ x, funRun fs X70 6 70 C70 x = C70.fn x := fun x => by kernel_rfl
theorem B70 : ConB Tryz.prog 70 C70 := ConB.make FS MIX TY (cons := K70) (L := L70) (ptrs := Q70) ⟨S89, trivial⟩ trivial ⟨⟨⟨N, fun p => f_laws_eqHomeS.l0.ok N p⟩, trivial⟩, trivial⟩ rfl rfl E70
theorem S70 : ConS Tryz.prog 70 C70 := B70.call rfl
/-! laws.eqMsg: function 73 -/
noncomputable def f_laws_eqMsg (x0 : Int) (x1 : Int) (x2 : Bool) (x3 : List Int) (x4 : Int) (x5 : Int) (x6 : Bool) (x7 : List Int) : Option (Bool) :=
  bif (!(decide (x0 = x4))) then
    some false
  else
    bif (!(decide (x1 = x5))) then
      some false
    else
      bif (!(x2 == x6)) then
        some false
      else
        (f_laws_eqIntS x3 x7).bind fun y536 =>
        bif (!y536) then
          some false
        else
          some true
noncomputable def C73 : Con := ⟨[(.B, true, [(.int .i64), (.int .i64), .bool, (.sl R0)]), (.B, true, [(.int .i64), (.int .i64), .bool, (.sl R0)])], [(false, [.bool])], [(.int .i64), (.int .i64), .bool, (.sl R0), (.int .i64), (.int .i64), .bool, (.sl R0)], [.bool], fun (p : Int × Int × Bool × List Int × Int × Int × Bool × List Int) => f_laws_eqMsg p.1 p.2.1 p.2.2.1 p.2.2.2.1 p.2.2.2.2.1 p.2.2.2.2.2.1 p.2.2.2.2.2.2.1 p.2.2.2.2.2.2.2⟩
noncomputable abbrev K73 : Cons := [(92, C92)]
noncomputable abbrev L73 : List (Nat × Loops) := []
abbrev Q73 : List (Nat × List (Int × Nat) × Nat) := []
noncomputable abbrev X73 : Nat → Ctx := ctxOf tb K73 L73 Q73
theorem E73 : ∀ x, funRun fs X73 6 73 C73 x = C73.fn x := fun x => by kernel_rfl
theorem B73 : ConB Tryz.prog 73 C73 := ConB.make FS MIX TY (cons := K73) (L := L73) (ptrs := Q73) ⟨S92, trivial⟩ trivial trivial rfl rfl E73
theorem S73 : ConS Tryz.prog 73 C73 := B73.call rfl
/-! laws.eqMsgS: function 104 -/
noncomputable def f_laws_eqMsgS.l0 : Nat → (List (Int × Int × Bool × List Int)) → (List (Int × Int × Bool × List Int)) → Bool → Int → Option ((Bool) ⊕ (Bool))
  | 0, _, _, _, _ => none
  | n + 1, p537, p538, p539, p540 =>
    bif (decide (p540 < (p537.length : Int))) then
      bif ((decide ((0 : Int) ≤ p540)) && (decide (p540 < (p537.length : Int)))) then
      bif ((decide ((0 : Int) ≤ p540)) && (decide (p540 < (p538.length : Int)))) then
      (f_laws_eqMsg ((p537.getD p540.toNat (0, 0, false, [])).1) ((p537.getD p540.toNat (0, 0, false, [])).2.1) ((p537.getD p540.toNat (0, 0, false, [])).2.2.1) ((p537.getD p540.toNat (0, 0, false, [])).2.2.2) ((p538.getD p540.toNat (0, 0, false, [])).1) ((p538.getD p540.toNat (0, 0, false, [])).2.1) ((p538.getD p540.toNat (0, 0, false, [])).2.2.1) ((p538.getD p540.toNat (0, 0, false, [])).2.2.2)).bind fun y541 =>
      bif (!y541) then
        some (.inl false)
      else
        f_laws_eqMsgS.l0 n p537 p538 p539 (IntKind.wrap .i64 (p540 + (1 : Int)))
      else none
      else none
    else
      some (.inr p539)
noncomputable def f_laws_eqMsgS (x0 : List (Int × Int × Bool × List Int)) (x1 : List (Int × Int × Bool × List Int)) : Option (Bool) :=
  bif (!(decide ((x0.length : Int) = (x1.length : Int)))) then
    some false
  else
    (f_laws_eqMsgS.l0 N x0 x1 false 0).bind fun r542 =>
    cs r542 (fun a543 =>
      some a543) (fun b544 =>
      some true)
noncomputable def C104 : Con := ⟨[(.B, false, [(.sl R5)]), (.B, false, [(.sl R5)])], [(false, [.bool])], [(.sl R5), (.sl R5)], [.bool], fun (p : (List (Int × Int × Bool × List Int)) × (List (Int × Int × Bool × List Int))) => f_laws_eqMsgS p.1 p.2⟩
noncomputable def f_laws_eqMsgS.l0.c : LoopCon := ⟨1000, 6, [0, 1, 4, 5], ⟨[(0, .bor none R5 []), (1, .bor none R5 []), (4, .bool false), (5, .int .i64 0)], [], 1000⟩, [(.sl R5), (.sl R5), .bool, (.int .i64)], [⟨.ret, [4], ⟨[(4, .bool false)], [], 1000⟩, [.bool]⟩, ⟨.exit 0, [4], ⟨[(4, .bool false)], [], 1000⟩, [.bool]⟩], fun (p : (List (Int × Int × Bool × List Int)) × (List (Int × Int × Bool × List Int)) × Bool × Int) => f_laws_eqMsgS.l0 N p.1 p.2.1 p.2.2.1 p.2.2.2⟩
noncomputable abbrev K104 : Cons := [(73, C73)]
noncomputable abbrev L104 : List (Nat × Loops) := [(104, [(4, f_laws_eqMsgS.l0.c)])]
abbrev Q104 : List (Nat × List (Int × Nat) × Nat) := []
noncomputable abbrev X104 : Nat → Ctx := ctxOf tb K104 L104 Q104
theorem f_laws_eqMsgS.l0.ok : ∀ n p, (fun (p : (List (Int × Int × Bool × List Int)) × (List (Int × Int × Bool × List Int)) × Bool × Int) => f_laws_eqMsgS.l0 n p.1 p.2.1 p.2.2.1 p.2.2.2) p = iterD (roundOf fs X104 6 104 4 false f_laws_eqMsgS.l0.c) n p :=
  iter_of (l := fun n => fun (p : (List (Int × Int × Bool × List Int)) × (List (Int × Int × Bool × List Int)) × Bool × Int) => f_laws_eqMsgS.l0 n p.1 p.2.1 p.2.2.1 p.2.2.2) (fun _ => rfl) (fun n p => by kernel_rfl)
theorem E104 : ∀ x, funRun fs X104 6 104 C104 x = C104.fn x := fun x => by kernel_rfl
theorem B104 : ConB Tryz.prog 104 C104 := ConB.make FS MIX TY (cons := K104) (L := L104) (ptrs := Q104) ⟨S73, trivial⟩ trivial ⟨⟨⟨N, fun p => f_laws_eqMsgS.l0.ok N p⟩, trivial⟩, trivial⟩ rfl rfl E104
theorem S104 : ConS Tryz.prog 104 C104 := B104.call rfl
/-! laws.eqSender: function 90 -/
noncomputable def f_laws_eqSender (x0 : Int) (x1 : List (Int × Int × Bool × List Int)) (x2 : Int) (x3 : List (Int × Int × Bool × List Int)) : Option (Bool) :=
  bif (!(decide (x0 = x2))) then
    some false
  else
    (f_laws_eqMsgS x1 x3).bind fun y545 =>
    bif (!y545) then
      some false
    else
      some true
noncomputable def C90 : Con := ⟨[(.B, true, [(.int .i64), (.sl R5)]), (.B, true, [(.int .i64), (.sl R5)])], [(false, [.bool])], [(.int .i64), (.sl R5), (.int .i64), (.sl R5)], [.bool], fun (p : Int × (List (Int × Int × Bool × List Int)) × Int × (List (Int × Int × Bool × List Int))) => f_laws_eqSender p.1 p.2.1 p.2.2.1 p.2.2.2⟩
noncomputable abbrev K90 : Cons := [(104, C104)]
noncomputable abbrev L90 : List (Nat × Loops) := []
abbrev Q90 : List (Nat × List (Int × Nat) × Nat) := []
noncomputable abbrev X90 : Nat → Ctx := ctxOf tb K90 L90 Q90
theorem E90 : ∀ x, funRun fs X90 6 90 C90 x = C90.fn x := fun x => by kernel_rfl
theorem B90 : ConB Tryz.prog 90 C90 := ConB.make FS MIX TY (cons := K90) (L := L90) (ptrs := Q90) ⟨S104, trivial⟩ trivial trivial rfl rfl E90
theorem S90 : ConS Tryz.prog 90 C90 := B90.call rfl
/-! laws.eqSenderS: function 71 -/
noncomputable def f_laws_eqSenderS.l0 : Nat → (List (Int × (List (Int × Int × Bool × List Int)))) → (List (Int × (List (Int × Int × Bool × List Int)))) → Bool → Int → Option ((Bool) ⊕ (Bool))
  | 0, _, _, _, _ => none
  | n + 1, p546, p547, p548, p549 =>
    bif (decide (p549 < (p546.length : Int))) then
      bif ((decide ((0 : Int) ≤ p549)) && (decide (p549 < (p546.length : Int)))) then
      bif ((decide ((0 : Int) ≤ p549)) && (decide (p549 < (p547.length : Int)))) then
      (f_laws_eqSender ((p546.getD p549.toNat (0, [])).1) ((p546.getD p549.toNat (0, [])).2) ((p547.getD p549.toNat (0, [])).1) ((p547.getD p549.toNat (0, [])).2)).bind fun y550 =>
      bif (!y550) then
        some (.inl false)
      else
        f_laws_eqSenderS.l0 n p546 p547 p548 (IntKind.wrap .i64 (p549 + (1 : Int)))
      else none
      else none
    else
      some (.inr p548)
noncomputable def f_laws_eqSenderS (x0 : List (Int × (List (Int × Int × Bool × List Int)))) (x1 : List (Int × (List (Int × Int × Bool × List Int)))) : Option (Bool) :=
  bif (!(decide ((x0.length : Int) = (x1.length : Int)))) then
    some false
  else
    (f_laws_eqSenderS.l0 N x0 x1 false 0).bind fun r551 =>
    cs r551 (fun a552 =>
      some a552) (fun b553 =>
      some true)
noncomputable def C71 : Con := ⟨[(.B, false, [(.sl R6)]), (.B, false, [(.sl R6)])], [(false, [.bool])], [(.sl R6), (.sl R6)], [.bool], fun (p : (List (Int × (List (Int × Int × Bool × List Int)))) × (List (Int × (List (Int × Int × Bool × List Int))))) => f_laws_eqSenderS p.1 p.2⟩
noncomputable def f_laws_eqSenderS.l0.c : LoopCon := ⟨1000, 6, [0, 1, 4, 5], ⟨[(0, .bor none R6 []), (1, .bor none R6 []), (4, .bool false), (5, .int .i64 0)], [], 1000⟩, [(.sl R6), (.sl R6), .bool, (.int .i64)], [⟨.ret, [4], ⟨[(4, .bool false)], [], 1000⟩, [.bool]⟩, ⟨.exit 0, [4], ⟨[(4, .bool false)], [], 1000⟩, [.bool]⟩], fun (p : (List (Int × (List (Int × Int × Bool × List Int)))) × (List (Int × (List (Int × Int × Bool × List Int)))) × Bool × Int) => f_laws_eqSenderS.l0 N p.1 p.2.1 p.2.2.1 p.2.2.2⟩
noncomputable abbrev K71 : Cons := [(90, C90)]
noncomputable abbrev L71 : List (Nat × Loops) := [(71, [(4, f_laws_eqSenderS.l0.c)])]
abbrev Q71 : List (Nat × List (Int × Nat) × Nat) := []
noncomputable abbrev X71 : Nat → Ctx := ctxOf tb K71 L71 Q71
theorem f_laws_eqSenderS.l0.ok : ∀ n p, (fun (p : (List (Int × (List (Int × Int × Bool × List Int)))) × (List (Int × (List (Int × Int × Bool × List Int)))) × Bool × Int) => f_laws_eqSenderS.l0 n p.1 p.2.1 p.2.2.1 p.2.2.2) p = iterD (roundOf fs X71 6 71 4 false f_laws_eqSenderS.l0.c) n p :=
  iter_of (l := fun n => fun (p : (List (Int × (List (Int × Int × Bool × List Int)))) × (List (Int × (List (Int × Int × Bool × List Int)))) × Bool × Int) => f_laws_eqSenderS.l0 n p.1 p.2.1 p.2.2.1 p.2.2.2) (fun _ => rfl) (fun n p => by kernel_rfl)
theorem E71 : ∀ x, funRun fs X71 6 71 C71 x = C71.fn x := fun x => by kernel_rfl
theorem B71 : ConB Tryz.prog 71 C71 := ConB.make FS MIX TY (cons := K71) (L := L71) (ptrs := Q71) ⟨S90, trivial⟩ trivial ⟨⟨⟨N, fun p => f_laws_eqSenderS.l0.ok N p⟩, trivial⟩, trivial⟩ rfl rfl E71
theorem S71 : ConS Tryz.prog 71 C71 := B71.call rfl
/-! laws.eqReceiver: function 91 -/
noncomputable def f_laws_eqReceiver (x0 : Int) (x1 : Int) : Option (Bool) :=
  bif (!(decide (x0 = x1))) then
    some false
  else
    some true
noncomputable def C91 : Con := ⟨[(.B, true, [(.int .i64)]), (.B, true, [(.int .i64)])], [(false, [.bool])], [(.int .i64), (.int .i64)], [.bool], fun (p : Int × Int) => f_laws_eqReceiver p.1 p.2⟩
noncomputable abbrev K91 : Cons := []
noncomputable abbrev L91 : List (Nat × Loops) := []
abbrev Q91 : List (Nat × List (Int × Nat) × Nat) := []
noncomputable abbrev X91 : Nat → Ctx := ctxOf tb K91 L91 Q91
theorem E91 : ∀ x, funRun fs X91 6 91 C91 x = C91.fn x := fun x => by kernel_rfl
theorem B91 : ConB Tryz.prog 91 C91 := ConB.make FS MIX TY (cons := K91) (L := L91) (ptrs := Q91) trivial trivial trivial rfl rfl E91
theorem S91 : ConS Tryz.prog 91 C91 := B91.call rfl
/-! laws.eqReceiverS: function 72 -/
noncomputable def f_laws_eqReceiverS.l0 : Nat → (List Int) → (List Int) → Bool → Int → Option ((Bool) ⊕ (Bool))
  | 0, _, _, _, _ => none
  | n + 1, p554, p555, p556, p557 =>
    bif (decide (p557 < (p554.length : Int))) then
      bif ((decide ((0 : Int) ≤ p557)) && (decide (p557 < (p554.length : Int)))) then
      bif ((decide ((0 : Int) ≤ p557)) && (decide (p557 < (p555.length : Int)))) then
      (f_laws_eqReceiver (p554.getD p557.toNat 0) (p555.getD p557.toNat 0)).bind fun y558 =>
      bif (!y558) then
        some (.inl false)
      else
        f_laws_eqReceiverS.l0 n p554 p555 p556 (IntKind.wrap .i64 (p557 + (1 : Int)))
      else none
      else none
    else
      some (.inr p556)
noncomputable def f_laws_eqReceiverS (x0 : List Int) (x1 : List Int) : Option (Bool) :=
  bif (!(decide ((x0.length : Int) = (x1.length : Int)))) then
    some false
  else
    (f_laws_eqReceiverS.l0 N x0 x1 false 0).bind fun r559 =>
    cs r559 (fun a560 =>
      some a560) (fun b561 =>
      some true)
noncomputable def C72 : Con := ⟨[(.B, false, [(.sl R0)]), (.B, false, [(.sl R0)])], [(false, [.bool])], [(.sl R0), (.sl R0)], [.bool], fun (p : List Int × List Int) => f_laws_eqReceiverS p.1 p.2⟩
noncomputable def f_laws_eqReceiverS.l0.c : LoopCon := ⟨1000, 6, [0, 1, 4, 5], ⟨[(0, .bor none R0 []), (1, .bor none R0 []), (4, .bool false), (5, .int .i64 0)], [], 1000⟩, [(.sl R0), (.sl R0), .bool, (.int .i64)], [⟨.ret, [4], ⟨[(4, .bool false)], [], 1000⟩, [.bool]⟩, ⟨.exit 0, [4], ⟨[(4, .bool false)], [], 1000⟩, [.bool]⟩], fun (p : List Int × List Int × Bool × Int) => f_laws_eqReceiverS.l0 N p.1 p.2.1 p.2.2.1 p.2.2.2⟩
noncomputable abbrev K72 : Cons := [(91, C91)]
noncomputable abbrev L72 : List (Nat × Loops) := [(72, [(4, f_laws_eqReceiverS.l0.c)])]
abbrev Q72 : List (Nat × List (Int × Nat) × Nat) := []
noncomputable abbrev X72 : Nat → Ctx := ctxOf tb K72 L72 Q72
theorem f_laws_eqReceiverS.l0.ok : ∀ n p, (fun (p : List Int × List Int × Bool × Int) => f_laws_eqReceiverS.l0 n p.1 p.2.1 p.2.2.1 p.2.2.2) p = iterD (roundOf fs X72 6 72 4 false f_laws_eqReceiverS.l0.c) n p :=
  iter_of (l := fun n => fun (p : List Int × List Int × Bool × Int) => f_laws_eqReceiverS.l0 n p.1 p.2.1 p.2.2.1 p.2.2.2) (fun _ => rfl) (fun n p => by kernel_rfl)
theorem E72 : ∀ x, funRun fs X72 6 72 C72 x = C72.fn x := fun x => by kernel_rfl
theorem B72 : ConB Tryz.prog 72 C72 := ConB.make FS MIX TY (cons := K72) (L := L72) (ptrs := Q72) ⟨S91, trivial⟩ trivial ⟨⟨⟨N, fun p => f_laws_eqReceiverS.l0.ok N p⟩, trivial⟩, trivial⟩ rfl rfl E72
theorem S72 : ConS Tryz.prog 72 C72 := B72.call rfl
/-! laws.eqNode: function 46 -/
noncomputable def f_laws_eqNode (x0 : Int) (x1 : List (Int × List Int × Bool)) (x2 : List (List Int × Int × List Bool × Bool × Int × Bool × Int × (List (Int × Bool)))) (x3 : List (Int × (List (Int × Int × Bool × List Int)))) (x4 : List Int) (x5 : Int) (x6 : List (Int × List Int × Bool)) (x7 : List (List Int × Int × List Bool × Bool × Int × Bool × Int × (List (Int × Bool)))) (x8 : List (Int × (List (Int × Int × Bool × List Int)))) (x9 : List Int) : Option (Bool) :=
  bif (!(decide (x0 = x5))) then
    some false
  else
    (f_laws_eqFrameS x1 x6).bind fun y562 =>
    bif (!y562) then
      some false
    else
      (f_laws_eqHomeS x2 x7).bind fun y563 =>
      bif (!y563) then
        some false
      else
        (f_laws_eqSenderS x3 x8).bind fun y564 =>
        bif (!y564) then
          some false
        else
          (f_laws_eqReceiverS x4 x9).bind fun y565 =>
          bif (!y565) then
            some false
          else
            some true
noncomputable def C46 : Con := ⟨[(.B, true, [(.int .i64), (.sl R1), (.sl R4), (.sl R6), (.sl R0)]), (.B, true, [(.int .i64), (.sl R1), (.sl R4), (.sl R6), (.sl R0)])], [(false, [.bool])], [(.int .i64), (.sl R1), (.sl R4), (.sl R6), (.sl R0), (.int .i64), (.sl R1), (.sl R4), (.sl R6), (.sl R0)], [.bool], fun (p : Int × (List (Int × List Int × Bool)) × (List (List Int × Int × List Bool × Bool × Int × Bool × Int × (List (Int × Bool)))) × (List (Int × (List (Int × Int × Bool × List Int)))) × List Int × Int × (List (Int × List Int × Bool)) × (List (List Int × Int × List Bool × Bool × Int × Bool × Int × (List (Int × Bool)))) × (List (Int × (List (Int × Int × Bool × List Int)))) × List Int) => f_laws_eqNode p.1 p.2.1 p.2.2.1 p.2.2.2.1 p.2.2.2.2.1 p.2.2.2.2.2.1 p.2.2.2.2.2.2.1 p.2.2.2.2.2.2.2.1 p.2.2.2.2.2.2.2.2.1 p.2.2.2.2.2.2.2.2.2⟩
noncomputable abbrev K46 : Cons := [(69, C69), (70, C70), (71, C71), (72, C72)]
noncomputable abbrev L46 : List (Nat × Loops) := []
abbrev Q46 : List (Nat × List (Int × Nat) × Nat) := []
noncomputable abbrev X46 : Nat → Ctx := ctxOf tb K46 L46 Q46
theorem E46 : ∀ x, funRun fs X46 6 46 C46 x = C46.fn x := fun x => by kernel_rfl
theorem B46 : ConB Tryz.prog 46 C46 := ConB.make FS MIX TY (cons := K46) (L := L46) (ptrs := Q46) ⟨S69, S70, S71, S72, trivial⟩ trivial trivial rfl rfl E46
theorem S46 : ConS Tryz.prog 46 C46 := B46.call rfl
/-! laws.eqNodeS: function 21 -/
noncomputable def f_laws_eqNodeS.l0 : Nat → (List (Int × (List (Int × List Int × Bool)) × (List (List Int × Int × List Bool × Bool × Int × Bool × Int × (List (Int × Bool)))) × (List (Int × (List (Int × Int × Bool × List Int)))) × List Int)) → (List (Int × (List (Int × List Int × Bool)) × (List (List Int × Int × List Bool × Bool × Int × Bool × Int × (List (Int × Bool)))) × (List (Int × (List (Int × Int × Bool × List Int)))) × List Int)) → Bool → Int → Option ((Bool) ⊕ (Bool))
  | 0, _, _, _, _ => none
  | n + 1, p566, p567, p568, p569 =>
    bif (decide (p569 < (p566.length : Int))) then
      bif ((decide ((0 : Int) ≤ p569)) && (decide (p569 < (p566.length : Int)))) then
      bif ((decide ((0 : Int) ≤ p569)) && (decide (p569 < (p567.length : Int)))) then
      (f_laws_eqNode ((p566.getD p569.toNat (0, [], [], [], [])).1) ((p566.getD p569.toNat (0, [], [], [], [])).2.1) ((p566.getD p569.toNat (0, [], [], [], [])).2.2.1) ((p566.getD p569.toNat (0, [], [], [], [])).2.2.2.1) ((p566.getD p569.toNat (0, [], [], [], [])).2.2.2.2) ((p567.getD p569.toNat (0, [], [], [], [])).1) ((p567.getD p569.toNat (0, [], [], [], [])).2.1) ((p567.getD p569.toNat (0, [], [], [], [])).2.2.1) ((p567.getD p569.toNat (0, [], [], [], [])).2.2.2.1) ((p567.getD p569.toNat (0, [], [], [], [])).2.2.2.2)).bind fun y570 =>
      bif (!y570) then
        some (.inl false)
      else
        f_laws_eqNodeS.l0 n p566 p567 p568 (IntKind.wrap .i64 (p569 + (1 : Int)))
      else none
      else none
    else
      some (.inr p568)
noncomputable def f_laws_eqNodeS (x0 : List (Int × (List (Int × List Int × Bool)) × (List (List Int × Int × List Bool × Bool × Int × Bool × Int × (List (Int × Bool)))) × (List (Int × (List (Int × Int × Bool × List Int)))) × List Int)) (x1 : List (Int × (List (Int × List Int × Bool)) × (List (List Int × Int × List Bool × Bool × Int × Bool × Int × (List (Int × Bool)))) × (List (Int × (List (Int × Int × Bool × List Int)))) × List Int)) : Option (Bool) :=
  bif (!(decide ((x0.length : Int) = (x1.length : Int)))) then
    some false
  else
    (f_laws_eqNodeS.l0 N x0 x1 false 0).bind fun r571 =>
    cs r571 (fun a572 =>
      some a572) (fun b573 =>
      some true)
noncomputable def C21 : Con := ⟨[(.B, false, [(.sl R7)]), (.B, false, [(.sl R7)])], [(false, [.bool])], [(.sl R7), (.sl R7)], [.bool], fun (p : (List (Int × (List (Int × List Int × Bool)) × (List (List Int × Int × List Bool × Bool × Int × Bool × Int × (List (Int × Bool)))) × (List (Int × (List (Int × Int × Bool × List Int)))) × List Int)) × (List (Int × (List (Int × List Int × Bool)) × (List (List Int × Int × List Bool × Bool × Int × Bool × Int × (List (Int × Bool)))) × (List (Int × (List (Int × Int × Bool × List Int)))) × List Int))) => f_laws_eqNodeS p.1 p.2⟩
noncomputable def f_laws_eqNodeS.l0.c : LoopCon := ⟨1000, 6, [0, 1, 4, 5], ⟨[(0, .bor none R7 []), (1, .bor none R7 []), (4, .bool false), (5, .int .i64 0)], [], 1000⟩, [(.sl R7), (.sl R7), .bool, (.int .i64)], [⟨.ret, [4], ⟨[(4, .bool false)], [], 1000⟩, [.bool]⟩, ⟨.exit 0, [4], ⟨[(4, .bool false)], [], 1000⟩, [.bool]⟩], fun (p : (List (Int × (List (Int × List Int × Bool)) × (List (List Int × Int × List Bool × Bool × Int × Bool × Int × (List (Int × Bool)))) × (List (Int × (List (Int × Int × Bool × List Int)))) × List Int)) × (List (Int × (List (Int × List Int × Bool)) × (List (List Int × Int × List Bool × Bool × Int × Bool × Int × (List (Int × Bool)))) × (List (Int × (List (Int × Int × Bool × List Int)))) × List Int)) × Bool × Int) => f_laws_eqNodeS.l0 N p.1 p.2.1 p.2.2.1 p.2.2.2⟩
noncomputable abbrev K21 : Cons := [(46, C46)]
noncomputable abbrev L21 : List (Nat × Loops) := [(21, [(4, f_laws_eqNodeS.l0.c)])]
abbrev Q21 : List (Nat × List (Int × Nat) × Nat) := []
noncomputable abbrev X21 : Nat → Ctx := ctxOf tb K21 L21 Q21
theorem f_laws_eqNodeS.l0.ok : ∀ n p, (fun (p : (List (Int × (List (Int × List Int × Bool)) × (List (List Int × Int × List Bool × Bool × Int × Bool × Int × (List (Int × Bool)))) × (List (Int × (List (Int × Int × Bool × List Int)))) × List Int)) × (List (Int × (List (Int × List Int × Bool)) × (List (List Int × Int × List Bool × Bool × Int × Bool × Int × (List (Int × Bool)))) × (List (Int × (List (Int × Int × Bool × List Int)))) × List Int)) × Bool × Int) => f_laws_eqNodeS.l0 n p.1 p.2.1 p.2.2.1 p.2.2.2) p = iterD (roundOf fs X21 6 21 4 false f_laws_eqNodeS.l0.c) n p :=
  iter_of (l := fun n => fun (p : (List (Int × (List (Int × List Int × Bool)) × (List (List Int × Int × List Bool × Bool × Int × Bool × Int × (List (Int × Bool)))) × (List (Int × (List (Int × Int × Bool × List Int)))) × List Int)) × (List (Int × (List (Int × List Int × Bool)) × (List (List Int × Int × List Bool × Bool × Int × Bool × Int × (List (Int × Bool)))) × (List (Int × (List (Int × Int × Bool × List Int)))) × List Int)) × Bool × Int) => f_laws_eqNodeS.l0 n p.1 p.2.1 p.2.2.1 p.2.2.2) (fun _ => rfl) (fun n p => by kernel_rfl)
theorem E21 : ∀ x, funRun fs X21 6 21 C21 x = C21.fn x := fun x => by kernel_rfl
theorem B21 : ConB Tryz.prog 21 C21 := ConB.make FS MIX TY (cons := K21) (L := L21) (ptrs := Q21) ⟨S46, trivial⟩ trivial ⟨⟨⟨N, fun p => f_laws_eqNodeS.l0.ok N p⟩, trivial⟩, trivial⟩ rfl rfl E21
theorem S21 : ConS Tryz.prog 21 C21 := B21.call rfl
/-! laws.eqPacket: function 47 -/
noncomputable def f_laws_eqPacket (x0 : Int) (x1 : Int) (x2 : Bool) (x3 : Int) (x4 : Int) (x5 : Int) (x6 : Bool) (x7 : List Int) (x8 : Int) (x9 : Int) (x10 : Bool) (x11 : Int) (x12 : Int) (x13 : Int) (x14 : Bool) (x15 : List Int) : Option (Bool) :=
  bif (!(decide (x0 = x8))) then
    some false
  else
    bif (!(decide (x1 = x9))) then
      some false
    else
      bif (!(x2 == x10)) then
        some false
      else
        bif (!(decide (x3 = x11))) then
          some false
        else
          (f_laws_eqMsg x4 x5 x6 x7 x12 x13 x14 x15).bind fun y574 =>
          bif (!y574) then
            some false
          else
            some true
noncomputable def C47 : Con := ⟨[(.B, true, [(.int .i64), (.int .i64), .bool, (.int .i64), (.int .i64), (.int .i64), .bool, (.sl R0)]), (.B, true, [(.int .i64), (.int .i64), .bool, (.int .i64), (.int .i64), (.int .i64), .bool, (.sl R0)])], [(false, [.bool])], [(.int .i64), (.int .i64), .bool, (.int .i64), (.int .i64), (.int .i64), .bool, (.sl R0), (.int .i64), (.int .i64), .bool, (.int .i64), (.int .i64), (.int .i64), .bool, (.sl R0)], [.bool], fun (p : Int × Int × Bool × Int × Int × Int × Bool × List Int × Int × Int × Bool × Int × Int × Int × Bool × List Int) => f_laws_eqPacket p.1 p.2.1 p.2.2.1 p.2.2.2.1 p.2.2.2.2.1 p.2.2.2.2.2.1 p.2.2.2.2.2.2.1 p.2.2.2.2.2.2.2.1 p.2.2.2.2.2.2.2.2.1 p.2.2.2.2.2.2.2.2.2.1 p.2.2.2.2.2.2.2.2.2.2.1 p.2.2.2.2.2.2.2.2.2.2.2.1 p.2.2.2.2.2.2.2.2.2.2.2.2.1 p.2.2.2.2.2.2.2.2.2.2.2.2.2.1 p.2.2.2.2.2.2.2.2.2.2.2.2.2.2.1 p.2.2.2.2.2.2.2.2.2.2.2.2.2.2.2⟩
noncomputable abbrev K47 : Cons := [(73, C73)]
noncomputable abbrev L47 : List (Nat × Loops) := []
abbrev Q47 : List (Nat × List (Int × Nat) × Nat) := []
noncomputable abbrev X47 : Nat → Ctx := ctxOf tb K47 L47 Q47
theorem E47 : ∀ x, funRun fs X47 6 47 C47 x = C47.fn x := fun x => by kernel_rfl
theorem B47 : ConB Tryz.prog 47 C47 := ConB.make FS MIX TY (cons := K47) (L := L47) (ptrs := Q47) ⟨S73, trivial⟩ trivial trivial rfl rfl E47
theorem S47 : ConS Tryz.prog 47 C47 := B47.call rfl
/-! laws.eqPacketS: function 22 -/
noncomputable def f_laws_eqPacketS.l0 : Nat → (List (Int × Int × Bool × Int × Int × Int × Bool × List Int)) → (List (Int × Int × Bool × Int × Int × Int × Bool × List Int)) → Bool → Int → Option ((Bool) ⊕ (Bool))
  | 0, _, _, _, _ => none
  | n + 1, p575, p576, p577, p578 =>
    bif (decide (p578 < (p575.length : Int))) then
      bif ((decide ((0 : Int) ≤ p578)) && (decide (p578 < (p575.length : Int)))) then
      bif ((decide ((0 : Int) ≤ p578)) && (decide (p578 < (p576.length : Int)))) then
      (f_laws_eqPacket ((p575.getD p578.toNat (0, 0, false, 0, 0, 0, false, [])).1) ((p575.getD p578.toNat (0, 0, false, 0, 0, 0, false, [])).2.1) ((p575.getD p578.toNat (0, 0, false, 0, 0, 0, false, [])).2.2.1) ((p575.getD p578.toNat (0, 0, false, 0, 0, 0, false, [])).2.2.2.1) ((p575.getD p578.toNat (0, 0, false, 0, 0, 0, false, [])).2.2.2.2.1) ((p575.getD p578.toNat (0, 0, false, 0, 0, 0, false, [])).2.2.2.2.2.1) ((p575.getD p578.toNat (0, 0, false, 0, 0, 0, false, [])).2.2.2.2.2.2.1) ((p575.getD p578.toNat (0, 0, false, 0, 0, 0, false, [])).2.2.2.2.2.2.2) ((p576.getD p578.toNat (0, 0, false, 0, 0, 0, false, [])).1) ((p576.getD p578.toNat (0, 0, false, 0, 0, 0, false, [])).2.1) ((p576.getD p578.toNat (0, 0, false, 0, 0, 0, false, [])).2.2.1) ((p576.getD p578.toNat (0, 0, false, 0, 0, 0, false, [])).2.2.2.1) ((p576.getD p578.toNat (0, 0, false, 0, 0, 0, false, [])).2.2.2.2.1) ((p576.getD p578.toNat (0, 0, false, 0, 0, 0, false, [])).2.2.2.2.2.1) ((p576.getD p578.toNat (0, 0, false, 0, 0, 0, false, [])).2.2.2.2.2.2.1) ((p576.getD p578.toNat (0, 0, false, 0, 0, 0, false, [])).2.2.2.2.2.2.2)).bind fun y579 =>
      bif (!y579) then
        some (.inl false)
      else
        f_laws_eqPacketS.l0 n p575 p576 p577 (IntKind.wrap .i64 (p578 + (1 : Int)))
      else none
      else none
    else
      some (.inr p577)
noncomputable def f_laws_eqPacketS (x0 : List (Int × Int × Bool × Int × Int × Int × Bool × List Int)) (x1 : List (Int × Int × Bool × Int × Int × Int × Bool × List Int)) : Option (Bool) :=
  bif (!(decide ((x0.length : Int) = (x1.length : Int)))) then
    some false
  else
    (f_laws_eqPacketS.l0 N x0 x1 false 0).bind fun r580 =>
    cs r580 (fun a581 =>
      some a581) (fun b582 =>
      some true)
noncomputable def C22 : Con := ⟨[(.B, false, [(.sl R8)]), (.B, false, [(.sl R8)])], [(false, [.bool])], [(.sl R8), (.sl R8)], [.bool], fun (p : (List (Int × Int × Bool × Int × Int × Int × Bool × List Int)) × (List (Int × Int × Bool × Int × Int × Int × Bool × List Int))) => f_laws_eqPacketS p.1 p.2⟩
noncomputable def f_laws_eqPacketS.l0.c : LoopCon := ⟨1000, 6, [0, 1, 4, 5], ⟨[(0, .bor none R8 []), (1, .bor none R8 []), (4, .bool false), (5, .int .i64 0)], [], 1000⟩, [(.sl R8), (.sl R8), .bool, (.int .i64)], [⟨.ret, [4], ⟨[(4, .bool false)], [], 1000⟩, [.bool]⟩, ⟨.exit 0, [4], ⟨[(4, .bool false)], [], 1000⟩, [.bool]⟩], fun (p : (List (Int × Int × Bool × Int × Int × Int × Bool × List Int)) × (List (Int × Int × Bool × Int × Int × Int × Bool × List Int)) × Bool × Int) => f_laws_eqPacketS.l0 N p.1 p.2.1 p.2.2.1 p.2.2.2⟩
noncomputable abbrev K22 : Cons := [(47, C47)]
noncomputable abbrev L22 : List (Nat × Loops) := [(22, [(4, f_laws_eqPacketS.l0.c)])]
abbrev Q22 : List (Nat × List (Int × Nat) × Nat) := []
noncomputable abbrev X22 : Nat → Ctx := ctxOf tb K22 L22 Q22
theorem f_laws_eqPacketS.l0.ok : ∀ n p, (fun (p : (List (Int × Int × Bool × Int × Int × Int × Bool × List Int)) × (List (Int × Int × Bool × Int × Int × Int × Bool × List Int)) × Bool × Int) => f_laws_eqPacketS.l0 n p.1 p.2.1 p.2.2.1 p.2.2.2) p = iterD (roundOf fs X22 6 22 4 false f_laws_eqPacketS.l0.c) n p :=
  iter_of (l := fun n => fun (p : (List (Int × Int × Bool × Int × Int × Int × Bool × List Int)) × (List (Int × Int × Bool × Int × Int × Int × Bool × List Int)) × Bool × Int) => f_laws_eqPacketS.l0 n p.1 p.2.1 p.2.2.1 p.2.2.2) (fun _ => rfl) (fun n p => by kernel_rfl)
theorem E22 : ∀ x, funRun fs X22 6 22 C22 x = C22.fn x := fun x => by kernel_rfl
theorem B22 : ConB Tryz.prog 22 C22 := ConB.make FS MIX TY (cons := K22) (L := L22) (ptrs := Q22) ⟨S47, trivial⟩ trivial ⟨⟨⟨N, fun p => f_laws_eqPacketS.l0.ok N p⟩, trivial⟩, trivial⟩ rfl rfl E22
theorem S22 : ConS Tryz.prog 22 C22 := B22.call rfl
/-! laws.eqWorld: function 8 -/
noncomputable def f_laws_eqWorld (x0 : Int) (x1 : List (Int × (List (Int × List Int × Bool)) × (List (List Int × Int × List Bool × Bool × Int × Bool × Int × (List (Int × Bool)))) × (List (Int × (List (Int × Int × Bool × List Int)))) × List Int)) (x2 : List (Int × Int × Bool × Int × Int × Int × Bool × List Int)) (x3 : Int) (x4 : List (Int × (List (Int × List Int × Bool)) × (List (List Int × Int × List Bool × Bool × Int × Bool × Int × (List (Int × Bool)))) × (List (Int × (List (Int × Int × Bool × List Int)))) × List Int)) (x5 : List (Int × Int × Bool × Int × Int × Int × Bool × List Int)) : Option (Bool) :=
  bif (!(decide (x0 = x3))) then
    some false
  else
    (f_laws_eqNodeS x1 x4).bind fun y583 =>
    bif (!y583) then
      some false
    else
      (f_laws_eqPacketS x2 x5).bind fun y584 =>
      bif (!y584) then
        some false
      else
        some true
noncomputable def C8 : Con := ⟨[(.B, true, [(.int .i64), (.sl R7), (.sl R8)]), (.B, true, [(.int .i64), (.sl R7), (.sl R8)])], [(false, [.bool])], [(.int .i64), (.sl R7), (.sl R8), (.int .i64), (.sl R7), (.sl R8)], [.bool], fun (p : Int × (List (Int × (List (Int × List Int × Bool)) × (List (List Int × Int × List Bool × Bool × Int × Bool × Int × (List (Int × Bool)))) × (List (Int × (List (Int × Int × Bool × List Int)))) × List Int)) × (List (Int × Int × Bool × Int × Int × Int × Bool × List Int)) × Int × (List (Int × (List (Int × List Int × Bool)) × (List (List Int × Int × List Bool × Bool × Int × Bool × Int × (List (Int × Bool)))) × (List (Int × (List (Int × Int × Bool × List Int)))) × List Int)) × (List (Int × Int × Bool × Int × Int × Int × Bool × List Int))) => f_laws_eqWorld p.1 p.2.1 p.2.2.1 p.2.2.2.1 p.2.2.2.2.1 p.2.2.2.2.2⟩
noncomputable abbrev K8 : Cons := [(21, C21), (22, C22)]
noncomputable abbrev L8 : List (Nat × Loops) := []
abbrev Q8 : List (Nat × List (Int × Nat) × Nat) := []
noncomputable abbrev X8 : Nat → Ctx := ctxOf tb K8 L8 Q8
theorem E8 : ∀ x, funRun fs X8 6 8 C8 x = C8.fn x := fun x => by kernel_rfl
theorem B8 : ConB Tryz.prog 8 C8 := ConB.make FS MIX TY (cons := K8) (L := L8) (ptrs := Q8) ⟨S21, S22, trivial⟩ trivial trivial rfl rfl E8
theorem S8 : ConS Tryz.prog 8 C8 := B8.call rfl
/-! laws.FnExactWorldOk: function 3 -/
noncomputable def f_laws_FnExactWorldOk (x0 : Int) (x1 : List (Int × (List (Int × List Int × Bool)) × (List (List Int × Int × List Bool × Bool × Int × Bool × Int × (List (Int × Bool)))) × (List (Int × (List (Int × Int × Bool × List Int)))) × List Int)) (x2 : List (Int × Int × Bool × Int × Int × Int × Bool × List Int)) : Option (Bool) :=
  (f_laws_szWorld x0 x1 x2 1048576).bind fun y585 =>
  bif (decide (y585 < (0 : Int))) then
    some true
  else
    (f_laws_toWorld x0 x1 x2).bind fun y586 =>
    (f_spec_WorldOk y586.1 y586.2.1 y586.2.2).bind fun y587 =>
    (f_laws_toWorld x0 x1 x2).bind fun y588 =>
    (f_impl_WorldOk y588.1 y588.2.1 y588.2.2).bind fun y589 =>
    bif (!(y589 == y587)) then
      some false
    else
      (f_laws_toWorld x0 x1 x2).bind fun y590 =>
      (f_laws_eqWorld y588.1 y588.2.1 y588.2.2 y590.1 y590.2.1 y590.2.2).bind fun y591 =>
      bif (!y591) then
        some false
      else
        some true
noncomputable def C3 : Con := ⟨[(.B, true, [(.int .i64), (.sl R7), (.sl R8)])], [(false, [.bool])], [(.int .i64), (.sl R7), (.sl R8)], [.bool], fun (p : Int × (List (Int × (List (Int × List Int × Bool)) × (List (List Int × Int × List Bool × Bool × Int × Bool × Int × (List (Int × Bool)))) × (List (Int × (List (Int × Int × Bool × List Int)))) × List Int)) × (List (Int × Int × Bool × Int × Int × Int × Bool × List Int))) => f_laws_FnExactWorldOk p.1 p.2.1 p.2.2⟩
noncomputable abbrev K3 : Cons := [(4, C4), (5, C5), (6, C6), (7, C7), (8, C8)]
noncomputable abbrev L3 : List (Nat × Loops) := []
abbrev Q3 : List (Nat × List (Int × Nat) × Nat) := []
noncomputable abbrev X3 : Nat → Ctx := ctxOf tb K3 L3 Q3
theorem E3 : ∀ x, funRun fs X3 6 3 C3 x = C3.fn x := fun x => by kernel_rfl
theorem B3 : ConB Tryz.prog 3 C3 := ConB.make FS MIX TY (cons := K3) (L := L3) (ptrs := Q3) ⟨S4, S5, S6, S7, S8, trivial⟩ trivial trivial rfl rfl E3
theorem S3 : ConS Tryz.prog 3 C3 := B3.call rfl
/-- What is left: the plain law. -/
def Pure : Prop := ∀ x : Tup [(.int .i64), (.sl R7), (.sl R8)], WfT [(.int .i64), (.sl R7), (.sl R8)] x → C3.fn x = some (true : Bool)
end
end Go.Abs
