import Derived.Test.YtdhjooflkiagaaaProg
import Derived.Test.YtdhjooflkiagaaaAbsD
import Derived.KernelRfl
namespace Go.Abs
open Go.Proofs
set_option linter.unusedVariables false
set_option maxRecDepth 100000
noncomputable section
abbrev N : Nat := 1152921504606846976
abbrev R0 : RT := .one (.int .i64)
abbrev R1 : RT := .one .bool
abbrev R2 : RT := .cons (.int .i64) (.one .bool)
abbrev R3 : RT := .cons (.int .i64) (.cons (.sl R0) (.one .bool))
abbrev R4 : RT := .cons (.sl R0) (.cons (.int .i64) (.cons (.sl R1) (.cons .bool (.cons (.int .i64) (.cons .bool (.cons (.int .i64) (.one (.sl R2))))))))
abbrev R5 : RT := .cons (.int .i64) (.cons (.int .i64) (.cons .bool (.one (.sl R0))))
abbrev R6 : RT := .cons (.int .i64) (.one (.sl R5))
abbrev R7 : RT := .cons (.int .i64) (.cons (.sl R3) (.cons (.sl R4) (.cons (.sl R6) (.one (.sl R0)))))
abbrev R8 : RT := .cons (.int .i64) (.cons (.int .i64) (.cons .bool (.cons (.int .i64) (.cons (.int .i64) (.cons (.int .i64) (.cons .bool (.one (.sl R0))))))))
noncomputable def tb : Tb := [(0, ⟨false, [], [], 0, 0⟩),
  (3, ⟨false, [(.int .i64)], [], 0, 8⟩),
  (4, ⟨false, [.bool], [], 0, 1⟩),
  (24, ⟨false, [(.sl R5)], [], 33, 24⟩),
  (26, ⟨true, [(.int .i64), (.sl R5)], [(0, 3), (1, 24)], 0, 32⟩),
  (28, ⟨true, [(.int .i64)], [(0, 3)], 0, 8⟩),
  (29, ⟨false, [(.sl R8)], [], 37, 24⟩),
  (31, ⟨false, [(.sl R0)], [], 3, 24⟩),
  (33, ⟨true, [(.int .i64), (.int .i64), .bool, (.sl R0)], [(0, 3), (1, 3), (2, 4), (3, 31)], 0, 48⟩),
  (37, ⟨true, [(.int .i64), (.int .i64), .bool, (.int .i64), (.int .i64), (.int .i64), .bool, (.sl R0)], [(0, 3), (1, 3), (2, 4), (3, 3), (4, 33)], 0, 80⟩),
  (42, ⟨false, [(.sl R1)], [], 4, 24⟩),
  (44, ⟨true, [(.int .i64), .bool], [(0, 3), (1, 4)], 0, 16⟩),
  (45, ⟨false, [(.sl R2)], [], 44, 24⟩),
  (47, ⟨true, [(.sl R0), (.int .i64), (.sl R1), .bool, (.int .i64), .bool, (.int .i64), (.sl R2)], [(0, 31), (1, 3), (2, 42), (3, 4), (4, 44), (6, 3), (7, 45)], 0, 112⟩),
  (71, ⟨false, [(.sl R7)], [], 112, 24⟩),
  (73, ⟨true, [(.int .i64), (.sl R7), (.sl R8)], [(0, 3), (1, 71), (2, 29)], 0, 56⟩),
  (74, ⟨false, [], [], 0, 0⟩),
  (107, ⟨false, [(.sl R3)], [], 138, 24⟩),
  (108, ⟨false, [(.sl R4)], [], 47, 24⟩),
  (109, ⟨false, [(.sl R6)], [], 26, 24⟩),
  (110, ⟨false, [(.sl R0)], [], 28, 24⟩),
  (112, ⟨true, [(.int .i64), (.sl R3), (.sl R4), (.sl R6), (.sl R0)], [(0, 3), (1, 107), (2, 108), (3, 109), (4, 110)], 0, 104⟩),
  (113, ⟨false, [], [], 0, 0⟩),
  (138, ⟨true, [(.int .i64), (.sl R0), .bool], [(0, 3), (1, 31), (2, 4)], 0, 40⟩)]
noncomputable def fsL : List (Nat × Func) := [(54, Try.f54), (94, Try.f94), (76, Try.f76), (31, Try.f31), (43, Try.f43), (48, Try.f48), (14, Try.f14), (77, Try.f77), (32, Try.f32), (65, Try.f65), (116, Try.f116), (109, Try.f109), (66, Try.f66), (67, Try.f67), (68, Try.f68), (23, Try.f23), (110, Try.f110), (25, Try.f25), (119, Try.f119), (117, Try.f117), (111, Try.f111), (118, Try.f118), (112, Try.f112), (95, Try.f95), (78, Try.f78), (96, Try.f96), (79, Try.f79), (33, Try.f33), (70, Try.f70), (97, Try.f97), (71, Try.f71), (72, Try.f72), (98, Try.f98), (113, Try.f113), (99, Try.f99), (100, Try.f100), (80, Try.f80), (81, Try.f81), (34, Try.f34), (73, Try.f73), (101, Try.f101), (74, Try.f74), (75, Try.f75), (102, Try.f102), (114, Try.f114), (103, Try.f103), (104, Try.f104), (82, Try.f82), (83, Try.f83), (35, Try.f35), (6, Try.f6)]
noncomputable def fs : Nat → Option Func := getF fsL
theorem MIX : Try.prog.follows .mixedOrders = true := by kernel_rfl
theorem TY : tyCheck Try.prog tb = true := by kernel_rfl
theorem CAT : catCheck tb = true := by kernel_rfl
theorem FSP : FsP Try.prog fsL := ⟨Try.func54, Try.func94, Try.func76, Try.func31, Try.func43, Try.func48, Try.func14, Try.func77, Try.func32, Try.func65, Try.func116, Try.func109, Try.func66, Try.func67, Try.func68, Try.func23, Try.func110, Try.func25, Try.func119, Try.func117, Try.func111, Try.func118, Try.func112, Try.func95, Try.func78, Try.func96, Try.func79, Try.func33, Try.func70, Try.func97, Try.func71, Try.func72, Try.func98, Try.func113, Try.func99, Try.func100, Try.func80, Try.func81, Try.func34, Try.func73, Try.func101, Try.func74, Try.func75, Try.func102, Try.func114, Try.func103, Try.func104, Try.func82, Try.func83, Try.func35, Try.func6, trivial⟩
theorem FSC : (fsL.all fun p => fnChk p.2) = true := by kernel_rfl
theorem FS : FsS Try.prog fs := FsS.of FSP FSC
/-! spec.l1In: function 54 -/
noncomputable def f_spec_l1In (x0 : Int) (x1 : Int) (x2 : Int) : Option (Bool) :=
  bif (decide (x1 ≤ x0)) then
    some (decide (x0 ≤ x2))
  else
    some false
noncomputable def C54 : Con := ⟨[(.B, false, [(.int .i64)]), (.B, false, [(.int .i64)]), (.B, false, [(.int .i64)])], [(false, [.bool])], [(.int .i64), (.int .i64), (.int .i64)], [.bool], fun (p : Int × Int × Int) => f_spec_l1In p.1 p.2.1 p.2.2⟩
noncomputable abbrev K54 : Cons := []
noncomputable abbrev L54 : List (Nat × Loops) := []
abbrev Q54 : List (Nat × List (Int × Nat) × Nat) := []
noncomputable abbrev X54 : Nat → Ctx := ctxOf tb K54 L54 Q54
theorem E54 : ∀ x, funRun fs X54 6 54 C54 x = C54.fn x := fun x => by kernel_rfl
theorem B54 : ConB Try.prog 54 C54 := ConB.make FS MIX TY (cons := K54) (L := L54) (ptrs := Q54) trivial trivial trivial rfl rfl E54
theorem S54 : ConS Try.prog 54 C54 := B54.call rfl
/-! spec.HomeNew: function 94 -/
noncomputable def f_spec_HomeNew (x0 : Int) : Option (List Int × Int × List Bool × Bool × Int × Bool × Int × (List (Int × Bool))) :=
  (f_spec_l1In x0 1 4).bind fun y1 =>
  bif (!y1) then
    some ([], 0, [], false, 0, false, 0, [])
  else
    bif (decide ((0 : Int) ≤ x0) && Nat.ble x0.toNat 140737488355328) then
    some ((List.replicate 4 0), -1, (List.replicate x0.toNat false), false, 0, false, 0, [])
    else none
noncomputable def C94 : Con := ⟨[(.B, false, [(.int .i64)])], [(true, [(.sl R0), (.int .i64), (.sl R1), .bool, (.int .i64), .bool, (.int .i64), (.sl R2)])], [(.int .i64)], [(.sl R0), (.int .i64), (.sl R1), .bool, (.int .i64), .bool, (.int .i64), (.sl R2)], fun (p : Int) => f_spec_HomeNew p⟩
noncomputable abbrev K94 : Cons := [(54, C54)]
noncomputable abbrev L94 : List (Nat × Loops) := []
abbrev Q94 : List (Nat × List (Int × Nat) × Nat) := []
noncomputable abbrev X94 : Nat → Ctx := ctxOf tb K94 L94 Q94
theorem E94 : ∀ x, funRun fs X94 6 94 C94 x = C94.fn x := fun x => by kernel_rfl
theorem B94 : ConB Try.prog 94 C94 := ConB.make FS MIX TY (cons := K94) (L := L94) (ptrs := Q94) ⟨S54, trivial⟩ trivial trivial rfl rfl E94
theorem S94 : ConS Try.prog 94 C94 := B94.call rfl
/-! spec.NodeNew: function 76 -/
noncomputable def f_spec_NodeNew.l0 : Nat → Int → Bool → Int → Int → Int → (List (Int × List Int × Bool)) → (List (List Int × Int × List Bool × Bool × Int × Bool × Int × (List (Int × Bool)))) → (List (Int × (List (Int × Int × Bool × List Int)))) → (List Int) → (List (Int × List Int × Bool)) → (List (List Int × Int × List Bool × Bool × Int × Bool × Int × (List (Int × Bool)))) → (List (Int × (List (Int × Int × Bool × List Int)))) → (List Int) → Option (Bool × Int × Int × (List (Int × List Int × Bool)) × (List (List Int × Int × List Bool × Bool × Int × Bool × Int × (List (Int × Bool)))) × (List (Int × (List (Int × Int × Bool × List Int)))) × List Int × (List (Int × List Int × Bool)) × (List (List Int × Int × List Bool × Bool × Int × Bool × Int × (List (Int × Bool)))) × (List (Int × (List (Int × Int × Bool × List Int)))) × List Int)
  | 0, _, _, _, _, _, _, _, _, _, _, _, _, _ => none
  | n + 1, p4, p5, p6, p7, p8, p9, p10, p11, p12, p13, p14, p15, p16 =>
    bif (decide (p6 < (6 : Int))) then
      (f_spec_HomeNew p4).bind fun y17 =>
      bif (Nat.blt (p14.length + ([(y17.1, y17.2.1, y17.2.2.1, y17.2.2.2.1, y17.2.2.2.2.1, y17.2.2.2.2.2.1, y17.2.2.2.2.2.2.1, y17.2.2.2.2.2.2.2)] : List (List Int × Int × List Bool × Bool × Int × Bool × Int × (List (Int × Bool)))).length) 1256584717458) then
      (some ((p14 ++ ([(y17.1, y17.2.1, y17.2.2.1, y17.2.2.2.1, y17.2.2.2.2.1, y17.2.2.2.2.2.1, y17.2.2.2.2.2.2.1, y17.2.2.2.2.2.2.2)] : List (List Int × Int × List Bool × Bool × Int × Bool × Int × (List (Int × Bool))))) : List (List Int × Int × List Bool × Bool × Int × Bool × Int × (List (Int × Bool))))).bind fun z18 =>
      f_spec_NodeNew.l0 n p4 p5 (IntKind.wrap .i64 (p6 + (1 : Int))) p7 p8 p9 p10 p11 p12 p13 z18 p15 p16
      else none
    else
      some (p5, p7, p8, p9, p10, p11, p12, p13, p14, p15, p16)
noncomputable def f_spec_NodeNew (x0 : Int) (x1 : Int) : Option (Int × (List (Int × List Int × Bool)) × (List (List Int × Int × List Bool × Bool × Int × Bool × Int × (List (Int × Bool)))) × (List (Int × (List (Int × Int × Bool × List Int)))) × List Int × Bool) :=
  (f_spec_l1In x1 1 4).bind fun y2 =>
  bif (!y2) then
    some (0, [], [], [], [], false)
  else
    (f_spec_l1In x0 0 (IntKind.wrap .i64 (x1 - (1 : Int)))).bind fun y3 =>
    bif (!y3) then
      some (0, [], [], [], [], false)
    else
      bif (decide ((0 : Int) ≤ x1) && Nat.ble x1.toNat 4398046511104) then
      bif (decide ((0 : Int) ≤ x1) && Nat.ble x1.toNat 17592186044416) then
      (f_spec_NodeNew.l0 N x1 false 0 0 x0 ([] : List (Int × List Int × Bool)) ([] : List (List Int × Int × List Bool × Bool × Int × Bool × Int × (List (Int × Bool)))) ([] : List (Int × (List (Int × Int × Bool × List Int)))) ([] : List Int) (List.replicate 6 (0, [], false)) ([] : List (List Int × Int × List Bool × Bool × Int × Bool × Int × (List (Int × Bool)))) (List.replicate x1.toNat (0, [])) (List.replicate x1.toNat 0)).bind fun r19 =>
      some (r19.2.2.1, r19.2.2.2.2.2.2.2.1, r19.2.2.2.2.2.2.2.2.1, r19.2.2.2.2.2.2.2.2.2.1, r19.2.2.2.2.2.2.2.2.2.2, true)
      else none
      else none
noncomputable def C76 : Con := ⟨[(.B, false, [(.int .i64)]), (.B, false, [(.int .i64)])], [(true, [(.int .i64), (.sl R3), (.sl R4), (.sl R6), (.sl R0)]), (false, [.bool])], [(.int .i64), (.int .i64)], [(.int .i64), (.sl R3), (.sl R4), (.sl R6), (.sl R0), .bool], fun (p : Int × Int) => f_spec_NodeNew p.1 p.2⟩
noncomputable def f_spec_NodeNew.l0.c : LoopCon := ⟨1000, 6, [1, 4, 5, 6, 7], ⟨[(1, .int .i64 0), (4, .ptr 1000 0), (5, .bool false), (6, .ptr 1001 0), (7, .int .i64 0)], [(1000, .box [.int .i64 0, .ref 1002 [] none, .ref 1003 [] none, .ref 1004 [] none, .ref 1005 [] none]), (1001, .box [.int .i64 0, .ref 1006 [] none, .ref 1007 [] none, .ref 1008 [] none, .ref 1009 [] none]), (1002, .row R3 []), (1003, .row R4 []), (1004, .row R6 []), (1005, .row R0 []), (1006, .row R3 []), (1007, .row R4 []), (1008, .row R6 []), (1009, .row R0 [])], 1010⟩, [(.int .i64), .bool, (.int .i64), (.int .i64), (.int .i64), (.sl R3), (.sl R4), (.sl R6), (.sl R0), (.sl R3), (.sl R4), (.sl R6), (.sl R0)], [⟨.exit 0, [4, 5, 6], ⟨[(4, .ptr 1000 0), (5, .bool false), (6, .ptr 1001 0)], [(1000, .box [.int .i64 0, .ref 1002 [] none, .ref 1003 [] none, .ref 1004 [] none, .ref 1005 [] none]), (1001, .box [.int .i64 0, .ref 1006 [] none, .ref 1007 [] none, .ref 1008 [] none, .ref 1009 [] none]), (1002, .row R3 []), (1003, .row R4 []), (1004, .row R6 []), (1005, .row R0 []), (1006, .row R3 []), (1007, .row R4 []), (1008, .row R6 []), (1009, .row R0 [])], 1010⟩, [.bool, (.int .i64), (.int .i64), (.sl R3), (.sl R4), (.sl R6), (.sl R0), (.sl R3), (.sl R4), (.sl R6), (.sl R0)]⟩], fun (p : Int × Bool × Int × Int × Int × (List (Int × List Int × Bool)) × (List (List Int × Int × List Bool × Bool × Int × Bool × Int × (List (Int × Bool)))) × (List (Int × (List (Int × Int × Bool × List Int)))) × List Int × (List (Int × List Int × Bool)) × (List (List Int × Int × List Bool × Bool × Int × Bool × Int × (List (Int × Bool)))) × (List (Int × (List (Int × Int × Bool × List Int)))) × List Int) => f_spec_NodeNew.l0 N p.1 p.2.1 p.2.2.1 p.2.2.2.1 p.2.2.2.2.1 p.2.2.2.2.2.1 p.2.2.2.2.2.2.1 p.2.2.2.2.2.2.2.1 p.2.2.2.2.2.2.2.2.1 p.2.2.2.2.2.2.2.2.2.1 p.2.2.2.2.2.2.2.2.2.2.1 p.2.2.2.2.2.2.2.2.2.2.2.1 p.2.2.2.2.2.2.2.2.2.2.2.2⟩
noncomputable abbrev K76 : Cons := [(54, C54), (94, C94)]
noncomputable abbrev L76 : List (Nat × Loops) := [(76, [(5, f_spec_NodeNew.l0.c)])]
abbrev Q76 : List (Nat × List (Int × Nat) × Nat) := []
noncomputable abbrev X76 : Nat → Ctx := ctxOf tb K76 L76 Q76
theorem f_spec_NodeNew.l0.ok : ∀ n p, (fun (p : Int × Bool × Int × Int × Int × (List (Int × List Int × Bool)) × (List (List Int × Int × List Bool × Bool × Int × Bool × Int × (List (Int × Bool)))) × (List (Int × (List (Int × Int × Bool × List Int)))) × List Int × (List (Int × List Int × Bool)) × (List (List Int × Int × List Bool × Bool × Int × Bool × Int × (List (Int × Bool)))) × (List (Int × (List (Int × Int × Bool × List Int)))) × List Int) => f_spec_NodeNew.l0 n p.1 p.2.1 p.2.2.1 p.2.2.2.1 p.2.2.2.2.1 p.2.2.2.2.2.1 p.2.2.2.2.2.2.1 p.2.2.2.2.2.2.2.1 p.2.2.2.2.2.2.2.2.1 p.2.2.2.2.2.2.2.2.2.1 p.2.2.2.2.2.2.2.2.2.2.1 p.2.2.2.2.2.2.2.2.2.2.2.1 p.2.2.2.2.2.2.2.2.2.2.2.2) p = iterD (roundOf fs X76 6 76 5 false f_spec_NodeNew.l0.c) n p :=
  iter_of (l := fun n => fun (p : Int × Bool × Int × Int × Int × (List (Int × List Int × Bool)) × (List (List Int × Int × List Bool × Bool × Int × Bool × Int × (List (Int × Bool)))) × (List (Int × (List (Int × Int × Bool × List Int)))) × List Int × (List (Int × List Int × Bool)) × (List (List Int × Int × List Bool × Bool × Int × Bool × Int × (List (Int × Bool)))) × (List (Int × (List (Int × Int × Bool × List Int)))) × List Int) => f_spec_NodeNew.l0 n p.1 p.2.1 p.2.2.1 p.2.2.2.1 p.2.2.2.2.1 p.2.2.2.2.2.1 p.2.2.2.2.2.2.1 p.2.2.2.2.2.2.2.1 p.2.2.2.2.2.2.2.2.1 p.2.2.2.2.2.2.2.2.2.1 p.2.2.2.2.2.2.2.2.2.2.1 p.2.2.2.2.2.2.2.2.2.2.2.1 p.2.2.2.2.2.2.2.2.2.2.2.2) (fun _ => rfl) (fun n p => by kernel_rfl)
theorem E76 : ∀ x, funRun fs X76 6 76 C76 x = C76.fn x := fun x => by kernel_rfl
theorem B76 : ConB Try.prog 76 C76 := ConB.make FS MIX TY (cons := K76) (L := L76) (ptrs := Q76) ⟨S54, S94, trivial⟩ trivial ⟨⟨⟨N, fun p => f_spec_NodeNew.l0.ok N p⟩, trivial⟩, trivial⟩ rfl rfl E76
theorem S76 : ConS Try.prog 76 C76 := B76.call rfl
/-! spec.WorldNew: function 31 -/
noncomputable def f_spec_WorldNew.l0 : Nat → Int → Bool → Int → Int → Int → (List (Int × (List (Int × List Int × Bool)) × (List (List Int × Int × List Bool × Bool × Int × Bool × Int × (List (Int × Bool)))) × (List (Int × (List (Int × Int × Bool × List Int)))) × List Int)) → (List (Int × Int × Bool × Int × Int × Int × Bool × List Int)) → (List (Int × (List (Int × List Int × Bool)) × (List (List Int × Int × List Bool × Bool × Int × Bool × Int × (List (Int × Bool)))) × (List (Int × (List (Int × Int × Bool × List Int)))) × List Int)) → (List (Int × Int × Bool × Int × Int × Int × Bool × List Int)) → Option (Bool × Int × Int × (List (Int × (List (Int × List Int × Bool)) × (List (List Int × Int × List Bool × Bool × Int × Bool × Int × (List (Int × Bool)))) × (List (Int × (List (Int × Int × Bool × List Int)))) × List Int)) × (List (Int × Int × Bool × Int × Int × Int × Bool × List Int)) × (List (Int × (List (Int × List Int × Bool)) × (List (List Int × Int × List Bool × Bool × Int × Bool × Int × (List (Int × Bool)))) × (List (Int × (List (Int × Int × Bool × List Int)))) × List Int)) × (List (Int × Int × Bool × Int × Int × Int × Bool × List Int)))
  | 0, _, _, _, _, _, _, _, _, _ => none
  | n + 1, p21, p22, p23, p24, p25, p26, p27, p28, p29 =>
    bif (decide (p23 < p21)) then
      (f_spec_NodeNew p23 p21).bind fun y30 =>
      bif (Nat.blt (p28.length + ([(y30.1, y30.2.1, y30.2.2.1, y30.2.2.2.1, y30.2.2.2.2.1)] : List (Int × (List (Int × List Int × Bool)) × (List (List Int × Int × List Bool × Bool × Int × Bool × Int × (List (Int × Bool)))) × (List (Int × (List (Int × Int × Bool × List Int)))) × List Int)).length) 1353245080339) then
      (some ((p28 ++ ([(y30.1, y30.2.1, y30.2.2.1, y30.2.2.2.1, y30.2.2.2.2.1)] : List (Int × (List (Int × List Int × Bool)) × (List (List Int × Int × List Bool × Bool × Int × Bool × Int × (List (Int × Bool)))) × (List (Int × (List (Int × Int × Bool × List Int)))) × List Int))) : List (Int × (List (Int × List Int × Bool)) × (List (List Int × Int × List Bool × Bool × Int × Bool × Int × (List (Int × Bool)))) × (List (Int × (List (Int × Int × Bool × List Int)))) × List Int))).bind fun z31 =>
      f_spec_WorldNew.l0 n p21 p22 (IntKind.wrap .i64 (p23 + (1 : Int))) p24 p25 p26 p27 z31 p29
      else none
    else
      some (p22, p24, p25, p26, p27, p28, p29)
noncomputable def f_spec_WorldNew (x0 : Int) : Option (Int × (List (Int × (List (Int × List Int × Bool)) × (List (List Int × Int × List Bool × Bool × Int × Bool × Int × (List (Int × Bool)))) × (List (Int × (List (Int × Int × Bool × List Int)))) × List Int)) × (List (Int × Int × Bool × Int × Int × Int × Bool × List Int)) × Bool) :=
  (f_spec_l1In x0 1 4).bind fun y20 =>
  bif (!y20) then
    some (0, [], [], false)
  else
    (f_spec_WorldNew.l0 N x0 false 0 0 x0 ([] : List (Int × (List (Int × List Int × Bool)) × (List (List Int × Int × List Bool × Bool × Int × Bool × Int × (List (Int × Bool)))) × (List (Int × (List (Int × Int × Bool × List Int)))) × List Int)) ([] : List (Int × Int × Bool × Int × Int × Int × Bool × List Int)) ([] : List (Int × (List (Int × List Int × Bool)) × (List (List Int × Int × List Bool × Bool × Int × Bool × Int × (List (Int × Bool)))) × (List (Int × (List (Int × Int × Bool × List Int)))) × List Int)) ([] : List (Int × Int × Bool × Int × Int × Int × Bool × List Int))).bind fun r32 =>
    some (r32.2.2.1, r32.2.2.2.2.2.1, r32.2.2.2.2.2.2, true)
noncomputable def C31 : Con := ⟨[(.B, false, [(.int .i64)])], [(true, [(.int .i64), (.sl R7), (.sl R8)]), (false, [.bool])], [(.int .i64)], [(.int .i64), (.sl R7), (.sl R8), .bool], fun (p : Int) => f_spec_WorldNew p⟩
noncomputable def f_spec_WorldNew.l0.c : LoopCon := ⟨1000, 6, [0, 2, 3, 4, 5], ⟨[(0, .int .i64 0), (2, .ptr 1000 0), (3, .bool false), (4, .ptr 1001 0), (5, .int .i64 0)], [(1000, .box [.int .i64 0, .ref 1002 [] none, .ref 1003 [] none]), (1001, .box [.int .i64 0, .ref 1004 [] none, .ref 1005 [] none]), (1002, .row R7 []), (1003, .row R8 []), (1004, .row R7 []), (1005, .row R8 [])], 1006⟩, [(.int .i64), .bool, (.int .i64), (.int .i64), (.int .i64), (.sl R7), (.sl R8), (.sl R7), (.sl R8)], [⟨.exit 0, [2, 3, 4], ⟨[(2, .ptr 1000 0), (3, .bool false), (4, .ptr 1001 0)], [(1000, .box [.int .i64 0, .ref 1002 [] none, .ref 1003 [] none]), (1001, .box [.int .i64 0, .ref 1004 [] none, .ref 1005 [] none]), (1002, .row R7 []), (1003, .row R8 []), (1004, .row R7 []), (1005, .row R8 [])], 1006⟩, [.bool, (.int .i64), (.int .i64), (.sl R7), (.sl R8), (.sl R7), (.sl R8)]⟩], fun (p : Int × Bool × Int × Int × Int × (List (Int × (List (Int × List Int × Bool)) × (List (List Int × Int × List Bool × Bool × Int × Bool × Int × (List (Int × Bool)))) × (List (Int × (List (Int × Int × Bool × List Int)))) × List Int)) × (List (Int × Int × Bool × Int × Int × Int × Bool × List Int)) × (List (Int × (List (Int × List Int × Bool)) × (List (List Int × Int × List Bool × Bool × Int × Bool × Int × (List (Int × Bool)))) × (List (Int × (List (Int × Int × Bool × List Int)))) × List Int)) × (List (Int × Int × Bool × Int × Int × Int × Bool × List Int))) => f_spec_WorldNew.l0 N p.1 p.2.1 p.2.2.1 p.2.2.2.1 p.2.2.2.2.1 p.2.2.2.2.2.1 p.2.2.2.2.2.2.1 p.2.2.2.2.2.2.2.1 p.2.2.2.2.2.2.2.2⟩
noncomputable abbrev K31 : Cons := [(54, C54), (76, C76)]
noncomputable abbrev L31 : List (Nat × Loops) := [(31, [(5, f_spec_WorldNew.l0.c)])]
abbrev Q31 : List (Nat × List (Int × Nat) × Nat) := []
noncomputable abbrev X31 : Nat → Ctx := ctxOf tb K31 L31 Q31
theorem f_spec_WorldNew.l0.ok : ∀ n p, (fun (p : Int × Bool × Int × Int × Int × (List (Int × (List (Int × List Int × Bool)) × (List (List Int × Int × List Bool × Bool × Int × Bool × Int × (List (Int × Bool)))) × (List (Int × (List (Int × Int × Bool × List Int)))) × List Int)) × (List (Int × Int × Bool × Int × Int × Int × Bool × List Int)) × (List (Int × (List (Int × List Int × Bool)) × (List (List Int × Int × List Bool × Bool × Int × Bool × Int × (List (Int × Bool)))) × (List (Int × (List (Int × Int × Bool × List Int)))) × List Int)) × (List (Int × Int × Bool × Int × Int × Int × Bool × List Int))) => f_spec_WorldNew.l0 n p.1 p.2.1 p.2.2.1 p.2.2.2.1 p.2.2.2.2.1 p.2.2.2.2.2.1 p.2.2.2.2.2.2.1 p.2.2.2.2.2.2.2.1 p.2.2.2.2.2.2.2.2) p = iterD (roundOf fs X31 6 31 5 false f_spec_WorldNew.l0.c) n p :=
  iter_of (l := fun n => fun (p : Int × Bool × Int × Int × Int × (List (Int × (List (Int × List Int × Bool)) × (List (List Int × Int × List Bool × Bool × Int × Bool × Int × (List (Int × Bool)))) × (List (Int × (List (Int × Int × Bool × List Int)))) × List Int)) × (List (Int × Int × Bool × Int × Int × Int × Bool × List Int)) × (List (Int × (List (Int × List Int × Bool)) × (List (List Int × Int × List Bool × Bool × Int × Bool × Int × (List (Int × Bool)))) × (List (Int × (List (Int × Int × Bool × List Int)))) × List Int)) × (List (Int × Int × Bool × Int × Int × Int × Bool × List Int))) => f_spec_WorldNew.l0 n p.1 p.2.1 p.2.2.1 p.2.2.2.1 p.2.2.2.2.1 p.2.2.2.2.2.1 p.2.2.2.2.2.2.1 p.2.2.2.2.2.2.2.1 p.2.2.2.2.2.2.2.2) (fun _ => rfl) (fun n p => by kernel_rfl)
theorem E31 : ∀ x, funRun fs X31 6 31 C31 x = C31.fn x := fun x => by kernel_rfl
theorem B31 : ConB Try.prog 31 C31 := ConB.make FS MIX TY (cons := K31) (L := L31) (ptrs := Q31) ⟨S54, S76, trivial⟩ trivial ⟨⟨⟨N, fun p => f_spec_WorldNew.l0.ok N p⟩, trivial⟩, trivial⟩ rfl rfl E31
theorem S31 : ConS Try.prog 31 C31 := B31.call rfl
/-! impl.from: function 43 -/
noncomputable def f_impl_from (x0 : Int) (x1 : Int) (x2 : Int) : Option (Bool) :=
  bif (decide (x1 ≤ x0)) then
    some (decide (x0 ≤ x2))
  else
    some false
noncomputable def C43 : Con := ⟨[(.B, false, [(.int .i64)]), (.B, false, [(.int .i64)]), (.B, false, [(.int .i64)])], [(false, [.bool])], [(.int .i64), (.int .i64), (.int .i64)], [.bool], fun (p : Int × Int × Int) => f_impl_from p.1 p.2.1 p.2.2⟩
noncomputable abbrev K43 : Cons := []
noncomputable abbrev L43 : List (Nat × Loops) := []
abbrev Q43 : List (Nat × List (Int × Nat) × Nat) := []
noncomputable abbrev X43 : Nat → Ctx := ctxOf tb K43 L43 Q43
theorem E43 : ∀ x, funRun fs X43 6 43 C43 x = C43.fn x := fun x => by kernel_rfl
theorem B43 : ConB Try.prog 43 C43 := ConB.make FS MIX TY (cons := K43) (L := L43) (ptrs := Q43) trivial trivial trivial rfl rfl E43
theorem S43 : ConS Try.prog 43 C43 := B43.call rfl
/-! impl.isOf: function 48 -/
noncomputable def f_impl_isOf (x0 : Int) (x1 : Int) : Option (Bool) :=
  (f_impl_from x1 1 4).bind fun y33 =>
  bif y33 then
    (f_impl_from x0 0 (IntKind.wrap .i64 (x1 - (1 : Int)))).bind fun y34 =>
    some y34
  else
    some false
noncomputable def C48 : Con := ⟨[(.B, false, [(.int .i64)]), (.B, false, [(.int .i64)])], [(false, [.bool])], [(.int .i64), (.int .i64)], [.bool], fun (p : Int × Int) => f_impl_isOf p.1 p.2⟩
noncomputable abbrev K48 : Cons := [(43, C43)]
noncomputable abbrev L48 : List (Nat × Loops) := []
abbrev Q48 : List (Nat × List (Int × Nat) × Nat) := []
noncomputable abbrev X48 : Nat → Ctx := ctxOf tb K48 L48 Q48
theorem E48 : ∀ x, funRun fs X48 6 48 C48 x = C48.fn x := fun x => by kernel_rfl
theorem B48 : ConB Try.prog 48 C48 := ConB.make FS MIX TY (cons := K48) (L := L48) (ptrs := Q48) ⟨S43, trivial⟩ trivial trivial rfl rfl E48
theorem S48 : ConS Try.prog 48 C48 := B48.call rfl
/-! impl.HomeNew: function 14 -/
noncomputable def f_impl_HomeNew (x0 : Int) : Option (List Int × Int × List Bool × Bool × Int × Bool × Int × (List (Int × Bool))) :=
  (f_impl_from x0 1 4).bind fun y35 =>
  bif (!y35) then
    some ([], 0, [], false, 0, false, 0, [])
  else
    bif (decide ((0 : Int) ≤ x0) && Nat.ble x0.toNat 140737488355328) then
    some ((List.replicate 4 0), -1, (List.replicate x0.toNat false), false, 0, false, 0, [])
    else none
noncomputable def C14 : Con := ⟨[(.B, false, [(.int .i64)])], [(true, [(.sl R0), (.int .i64), (.sl R1), .bool, (.int .i64), .bool, (.int .i64), (.sl R2)])], [(.int .i64)], [(.sl R0), (.int .i64), (.sl R1), .bool, (.int .i64), .bool, (.int .i64), (.sl R2)], fun (p : Int) => f_impl_HomeNew p⟩
noncomputable abbrev K14 : Cons := [(43, C43)]
noncomputable abbrev L14 : List (Nat × Loops) := []
abbrev Q14 : List (Nat × List (Int × Nat) × Nat) := []
noncomputable abbrev X14 : Nat → Ctx := ctxOf tb K14 L14 Q14
theorem E14 : ∀ x, funRun fs X14 6 14 C14 x = C14.fn x := fun x => by kernel_rfl
theorem B14 : ConB Try.prog 14 C14 := ConB.make FS MIX TY (cons := K14) (L := L14) (ptrs := Q14) ⟨S43, trivial⟩ trivial trivial rfl rfl E14
theorem S14 : ConS Try.prog 14 C14 := B14.call rfl
/-! impl.NodeNew: function 77 -/
noncomputable def f_impl_NodeNew.l0 : Nat → Int → Bool → Int → Int → Int → (List (Int × List Int × Bool)) → (List (List Int × Int × List Bool × Bool × Int × Bool × Int × (List (Int × Bool)))) → (List (Int × (List (Int × Int × Bool × List Int)))) → (List Int) → (List (Int × List Int × Bool)) → (List (List Int × Int × List Bool × Bool × Int × Bool × Int × (List (Int × Bool)))) → (List (Int × (List (Int × Int × Bool × List Int)))) → (List Int) → Option (Bool × Int × Int × (List (Int × List Int × Bool)) × (List (List Int × Int × List Bool × Bool × Int × Bool × Int × (List (Int × Bool)))) × (List (Int × (List (Int × Int × Bool × List Int)))) × List Int × (List (Int × List Int × Bool)) × (List (List Int × Int × List Bool × Bool × Int × Bool × Int × (List (Int × Bool)))) × (List (Int × (List (Int × Int × Bool × List Int)))) × List Int)
  | 0, _, _, _, _, _, _, _, _, _, _, _, _, _ => none
  | n + 1, p37, p38, p39, p40, p41, p42, p43, p44, p45, p46, p47, p48, p49 =>
    bif (decide (p39 < (6 : Int))) then
      (f_impl_HomeNew p37).bind fun y50 =>
      bif (Nat.blt (p47.length + ([(y50.1, y50.2.1, y50.2.2.1, y50.2.2.2.1, y50.2.2.2.2.1, y50.2.2.2.2.2.1, y50.2.2.2.2.2.2.1, y50.2.2.2.2.2.2.2)] : List (List Int × Int × List Bool × Bool × Int × Bool × Int × (List (Int × Bool)))).length) 1256584717458) then
      (some ((p47 ++ ([(y50.1, y50.2.1, y50.2.2.1, y50.2.2.2.1, y50.2.2.2.2.1, y50.2.2.2.2.2.1, y50.2.2.2.2.2.2.1, y50.2.2.2.2.2.2.2)] : List (List Int × Int × List Bool × Bool × Int × Bool × Int × (List (Int × Bool))))) : List (List Int × Int × List Bool × Bool × Int × Bool × Int × (List (Int × Bool))))).bind fun z51 =>
      f_impl_NodeNew.l0 n p37 p38 (IntKind.wrap .i64 (p39 + (1 : Int))) p40 p41 p42 p43 p44 p45 p46 z51 p48 p49
      else none
    else
      some (p38, p40, p41, p42, p43, p44, p45, p46, p47, p48, p49)
noncomputable def f_impl_NodeNew (x0 : Int) (x1 : Int) : Option (Int × (List (Int × List Int × Bool)) × (List (List Int × Int × List Bool × Bool × Int × Bool × Int × (List (Int × Bool)))) × (List (Int × (List (Int × Int × Bool × List Int)))) × List Int × Bool) :=
  (f_impl_isOf x0 x1).bind fun y36 =>
  bif (!y36) then
    some (0, [], [], [], [], false)
  else
    bif (decide ((0 : Int) ≤ x1) && Nat.ble x1.toNat 4398046511104) then
    bif (decide ((0 : Int) ≤ x1) && Nat.ble x1.toNat 17592186044416) then
    (f_impl_NodeNew.l0 N x1 false 0 0 x0 ([] : List (Int × List Int × Bool)) ([] : List (List Int × Int × List Bool × Bool × Int × Bool × Int × (List (Int × Bool)))) ([] : List (Int × (List (Int × Int × Bool × List Int)))) ([] : List Int) (List.replicate 6 (0, [], false)) ([] : List (List Int × Int × List Bool × Bool × Int × Bool × Int × (List (Int × Bool)))) (List.replicate x1.toNat (0, [])) (List.replicate x1.toNat 0)).bind fun r52 =>
    some (r52.2.2.1, r52.2.2.2.2.2.2.2.1, r52.2.2.2.2.2.2.2.2.1, r52.2.2.2.2.2.2.2.2.2.1, r52.2.2.2.2.2.2.2.2.2.2, true)
    else none
    else none
noncomputable def C77 : Con := ⟨[(.B, false, [(.int .i64)]), (.B, false, [(.int .i64)])], [(true, [(.int .i64), (.sl R3), (.sl R4), (.sl R6), (.sl R0)]), (false, [.bool])], [(.int .i64), (.int .i64)], [(.int .i64), (.sl R3), (.sl R4), (.sl R6), (.sl R0), .bool], fun (p : Int × Int) => f_impl_NodeNew p.1 p.2⟩
noncomputable def f_impl_NodeNew.l0.c : LoopCon := ⟨1000, 6, [1, 4, 5, 6, 19], ⟨[(1, .int .i64 0), (4, .ptr 1000 0), (5, .bool false), (6, .ptr 1001 0), (19, .int .i64 0)], [(1000, .box [.int .i64 0, .ref 1002 [] none, .ref 1003 [] none, .ref 1004 [] none, .ref 1005 [] none]), (1001, .box [.int .i64 0, .ref 1006 [] none, .ref 1007 [] none, .ref 1008 [] none, .ref 1009 [] none]), (1002, .row R3 []), (1003, .row R4 []), (1004, .row R6 []), (1005, .row R0 []), (1006, .row R3 []), (1007, .row R4 []), (1008, .row R6 []), (1009, .row R0 [])], 1010⟩, [(.int .i64), .bool, (.int .i64), (.int .i64), (.int .i64), (.sl R3), (.sl R4), (.sl R6), (.sl R0), (.sl R3), (.sl R4), (.sl R6), (.sl R0)], [⟨.exit 0, [4, 5, 6], ⟨[(4, .ptr 1000 0), (5, .bool false), (6, .ptr 1001 0)], [(1000, .box [.int .i64 0, .ref 1002 [] none, .ref 1003 [] none, .ref 1004 [] none, .ref 1005 [] none]), (1001, .box [.int .i64 0, .ref 1006 [] none, .ref 1007 [] none, .ref 1008 [] none, .ref 1009 [] none]), (1002, .row R3 []), (1003, .row R4 []), (1004, .row R6 []), (1005, .row R0 []), (1006, .row R3 []), (1007, .row R4 []), (1008, .row R6 []), (1009, .row R0 [])], 1010⟩, [.bool, (.int .i64), (.int .i64), (.sl R3), (.sl R4), (.sl R6), (.sl R0), (.sl R3), (.sl R4), (.sl R6), (.sl R0)]⟩], fun (p : Int × Bool × Int × Int × Int × (List (Int × List Int × Bool)) × (List (List Int × Int × List Bool × Bool × Int × Bool × Int × (List (Int × Bool)))) × (List (Int × (List (Int × Int × Bool × List Int)))) × List Int × (List (Int × List Int × Bool)) × (List (List Int × Int × List Bool × Bool × Int × Bool × Int × (List (Int × Bool)))) × (List (Int × (List (Int × Int × Bool × List Int)))) × List Int) => f_impl_NodeNew.l0 N p.1 p.2.1 p.2.2.1 p.2.2.2.1 p.2.2.2.2.1 p.2.2.2.2.2.1 p.2.2.2.2.2.2.1 p.2.2.2.2.2.2.2.1 p.2.2.2.2.2.2.2.2.1 p.2.2.2.2.2.2.2.2.2.1 p.2.2.2.2.2.2.2.2.2.2.1 p.2.2.2.2.2.2.2.2.2.2.2.1 p.2.2.2.2.2.2.2.2.2.2.2.2⟩
noncomputable abbrev K77 : Cons := [(14, C14), (48, C48)]
noncomputable abbrev L77 : List (Nat × Loops) := [(77, [(5, f_impl_NodeNew.l0.c)])]
abbrev Q77 : List (Nat × List (Int × Nat) × Nat) := []
noncomputable abbrev X77 : Nat → Ctx := ctxOf tb K77 L77 Q77
theorem f_impl_NodeNew.l0.ok : ∀ n p, (fun (p : Int × Bool × Int × Int × Int × (List (Int × List Int × Bool)) × (List (List Int × Int × List Bool × Bool × Int × Bool × Int × (List (Int × Bool)))) × (List (Int × (List (Int × Int × Bool × List Int)))) × List Int × (List (Int × List Int × Bool)) × (List (List Int × Int × List Bool × Bool × Int × Bool × Int × (List (Int × Bool)))) × (List (Int × (List (Int × Int × Bool × List Int)))) × List Int) => f_impl_NodeNew.l0 n p.1 p.2.1 p.2.2.1 p.2.2.2.1 p.2.2.2.2.1 p.2.2.2.2.2.1 p.2.2.2.2.2.2.1 p.2.2.2.2.2.2.2.1 p.2.2.2.2.2.2.2.2.1 p.2.2.2.2.2.2.2.2.2.1 p.2.2.2.2.2.2.2.2.2.2.1 p.2.2.2.2.2.2.2.2.2.2.2.1 p.2.2.2.2.2.2.2.2.2.2.2.2) p = iterD (roundOf fs X77 6 77 5 false f_impl_NodeNew.l0.c) n p :=
  iter_of (l := fun n => fun (p : Int × Bool × Int × Int × Int × (List (Int × List Int × Bool)) × (List (List Int × Int × List Bool × Bool × Int × Bool × Int × (List (Int × Bool)))) × (List (Int × (List (Int × Int × Bool × List Int)))) × List Int × (List (Int × List Int × Bool)) × (List (List Int × Int × List Bool × Bool × Int × Bool × Int × (List (Int × Bool)))) × (List (Int × (List (Int × Int × Bool × List Int)))) × List Int) => f_impl_NodeNew.l0 n p.1 p.2.1 p.2.2.1 p.2.2.2.1 p.2.2.2.2.1 p.2.2.2.2.2.1 p.2.2.2.2.2.2.1 p.2.2.2.2.2.2.2.1 p.2.2.2.2.2.2.2.2.1 p.2.2.2.2.2.2.2.2.2.1 p.2.2.2.2.2.2.2.2.2.2.1 p.2.2.2.2.2.2.2.2.2.2.2.1 p.2.2.2.2.2.2.2.2.2.2.2.2) (fun _ => rfl) (fun n p => by kernel_rfl)
theorem E77 : ∀ x, funRun fs X77 6 77 C77 x = C77.fn x := fun x => by kernel_rfl
theorem B77 : ConB Try.prog 77 C77 := ConB.make FS MIX TY (cons := K77) (L := L77) (ptrs := Q77) ⟨S14, S48, trivial⟩ trivial ⟨⟨⟨N, fun p => f_impl_NodeNew.l0.ok N p⟩, trivial⟩, trivial⟩ rfl rfl E77
theorem S77 : ConS Try.prog 77 C77 := B77.call rfl
/-! impl.WorldNew: function 32 -/
noncomputable def f_impl_WorldNew.l0 : Nat → Int → Bool → Int → Int → Int → Int → (List (Int × (List (Int × List Int × Bool)) × (List (List Int × Int × List Bool × Bool × Int × Bool × Int × (List (Int × Bool)))) × (List (Int × (List (Int × Int × Bool × List Int)))) × List Int)) → (List (Int × Int × Bool × Int × Int × Int × Bool × List Int)) → (List (Int × (List (Int × List Int × Bool)) × (List (List Int × Int × List Bool × Bool × Int × Bool × Int × (List (Int × Bool)))) × (List (Int × (List (Int × Int × Bool × List Int)))) × List Int)) → (List (Int × Int × Bool × Int × Int × Int × Bool × List Int)) → Option (Bool × Int × Int × (List (Int × (List (Int × List Int × Bool)) × (List (List Int × Int × List Bool × Bool × Int × Bool × Int × (List (Int × Bool)))) × (List (Int × (List (Int × Int × Bool × List Int)))) × List Int)) × (List (Int × Int × Bool × Int × Int × Int × Bool × List Int)) × (List (Int × (List (Int × List Int × Bool)) × (List (List Int × Int × List Bool × Bool × Int × Bool × Int × (List (Int × Bool)))) × (List (Int × (List (Int × Int × Bool × List Int)))) × List Int)) × (List (Int × Int × Bool × Int × Int × Int × Bool × List Int)))
  | 0, _, _, _, _, _, _, _, _, _, _ => none
  | n + 1, p54, p55, p56, p57, p58, p59, p60, p61, p62, p63 =>
    bif (decide (p57 < p56)) then
      (f_impl_NodeNew p57 p54).bind fun y64 =>
      bif (Nat.blt (p62.length + ([(y64.1, y64.2.1, y64.2.2.1, y64.2.2.2.1, y64.2.2.2.2.1)] : List (Int × (List (Int × List Int × Bool)) × (List (List Int × Int × List Bool × Bool × Int × Bool × Int × (List (Int × Bool)))) × (List (Int × (List (Int × Int × Bool × List Int)))) × List Int)).length) 1353245080339) then
      (some ((p62 ++ ([(y64.1, y64.2.1, y64.2.2.1, y64.2.2.2.1, y64.2.2.2.2.1)] : List (Int × (List (Int × List Int × Bool)) × (List (List Int × Int × List Bool × Bool × Int × Bool × Int × (List (Int × Bool)))) × (List (Int × (List (Int × Int × Bool × List Int)))) × List Int))) : List (Int × (List (Int × List Int × Bool)) × (List (List Int × Int × List Bool × Bool × Int × Bool × Int × (List (Int × Bool)))) × (List (Int × (List (Int × Int × Bool × List Int)))) × List Int))).bind fun z65 =>
      f_impl_WorldNew.l0 n p54 p55 p56 (IntKind.wrap .i64 (p57 + (1 : Int))) p58 p59 p60 p61 z65 p63
      else none
    else
      some (p55, p58, p59, p60, p61, p62, p63)
noncomputable def f_impl_WorldNew (x0 : Int) : Option (Int × (List (Int × (List (Int × List Int × Bool)) × (List (List Int × Int × List Bool × Bool × Int × Bool × Int × (List (Int × Bool)))) × (List (Int × (List (Int × Int × Bool × List Int)))) × List Int)) × (List (Int × Int × Bool × Int × Int × Int × Bool × List Int)) × Bool) :=
  (f_impl_from x0 1 4).bind fun y53 =>
  bif (!y53) then
    some (0, [], [], false)
  else
    (f_impl_WorldNew.l0 N x0 false x0 0 0 x0 ([] : List (Int × (List (Int × List Int × Bool)) × (List (List Int × Int × List Bool × Bool × Int × Bool × Int × (List (Int × Bool)))) × (List (Int × (List (Int × Int × Bool × List Int)))) × List Int)) ([] : List (Int × Int × Bool × Int × Int × Int × Bool × List Int)) ([] : List (Int × (List (Int × List Int × Bool)) × (List (List Int × Int × List Bool × Bool × Int × Bool × Int × (List (Int × Bool)))) × (List (Int × (List (Int × Int × Bool × List Int)))) × List Int)) ([] : List (Int × Int × Bool × Int × Int × Int × Bool × List Int))).bind fun r66 =>
    some (r66.2.2.1, r66.2.2.2.2.2.1, r66.2.2.2.2.2.2, true)
noncomputable def C32 : Con := ⟨[(.B, false, [(.int .i64)])], [(true, [(.int .i64), (.sl R7), (.sl R8)]), (false, [.bool])], [(.int .i64)], [(.int .i64), (.sl R7), (.sl R8), .bool], fun (p : Int) => f_impl_WorldNew p⟩
noncomputable def f_impl_WorldNew.l0.c : LoopCon := ⟨1000, 6, [0, 2, 3, 4, 14, 15], ⟨[(0, .int .i64 0), (2, .ptr 1000 0), (3, .bool false), (4, .ptr 1001 0), (14, .int .i64 0), (15, .int .i64 0)], [(1000, .box [.int .i64 0, .ref 1002 [] none, .ref 1003 [] none]), (1001, .box [.int .i64 0, .ref 1004 [] none, .ref 1005 [] none]), (1002, .row R7 []), (1003, .row R8 []), (1004, .row R7 []), (1005, .row R8 [])], 1006⟩, [(.int .i64), .bool, (.int .i64), (.int .i64), (.int .i64), (.int .i64), (.sl R7), (.sl R8), (.sl R7), (.sl R8)], [⟨.exit 0, [2, 3, 4], ⟨[(2, .ptr 1000 0), (3, .bool false), (4, .ptr 1001 0)], [(1000, .box [.int .i64 0, .ref 1002 [] none, .ref 1003 [] none]), (1001, .box [.int .i64 0, .ref 1004 [] none, .ref 1005 [] none]), (1002, .row R7 []), (1003, .row R8 []), (1004, .row R7 []), (1005, .row R8 [])], 1006⟩, [.bool, (.int .i64), (.int .i64), (.sl R7), (.sl R8), (.sl R7), (.sl R8)]⟩], fun (p : Int × Bool × Int × Int × Int × Int × (List (Int × (List (Int × List Int × Bool)) × (List (List Int × Int × List Bool × Bool × Int × Bool × Int × (List (Int × Bool)))) × (List (Int × (List (Int × Int × Bool × List Int)))) × List Int)) × (List (Int × Int × Bool × Int × Int × Int × Bool × List Int)) × (List (Int × (List (Int × List Int × Bool)) × (List (List Int × Int × List Bool × Bool × Int × Bool × Int × (List (Int × Bool)))) × (List (Int × (List (Int × Int × Bool × List Int)))) × List Int)) × (List (Int × Int × Bool × Int × Int × Int × Bool × List Int))) => f_impl_WorldNew.l0 N p.1 p.2.1 p.2.2.1 p.2.2.2.1 p.2.2.2.2.1 p.2.2.2.2.2.1 p.2.2.2.2.2.2.1 p.2.2.2.2.2.2.2.1 p.2.2.2.2.2.2.2.2.1 p.2.2.2.2.2.2.2.2.2⟩
noncomputable abbrev K32 : Cons := [(43, C43), (77, C77)]
noncomputable abbrev L32 : List (Nat × Loops) := [(32, [(5, f_impl_WorldNew.l0.c)])]
abbrev Q32 : List (Nat × List (Int × Nat) × Nat) := []
noncomputable abbrev X32 : Nat → Ctx := ctxOf tb K32 L32 Q32
theorem f_impl_WorldNew.l0.ok : ∀ n p, (fun (p : Int × Bool × Int × Int × Int × Int × (List (Int × (List (Int × List Int × Bool)) × (List (List Int × Int × List Bool × Bool × Int × Bool × Int × (List (Int × Bool)))) × (List (Int × (List (Int × Int × Bool × List Int)))) × List Int)) × (List (Int × Int × Bool × Int × Int × Int × Bool × List Int)) × (List (Int × (List (Int × List Int × Bool)) × (List (List Int × Int × List Bool × Bool × Int × Bool × Int × (List (Int × Bool)))) × (List (Int × (List (Int × Int × Bool × List Int)))) × List Int)) × (List (Int × Int × Bool × Int × Int × Int × Bool × List Int))) => f_impl_WorldNew.l0 n p.1 p.2.1 p.2.2.1 p.2.2.2.1 p.2.2.2.2.1 p.2.2.2.2.2.1 p.2.2.2.2.2.2.1 p.2.2.2.2.2.2.2.1 p.2.2.2.2.2.2.2.2.1 p.2.2.2.2.2.2.2.2.2) p = iterD (roundOf fs X32 6 32 5 false f_impl_WorldNew.l0.c) n p :=
  iter_of (l := fun n => fun (p : Int × Bool × Int × Int × Int × Int × (List (Int × (List (Int × List Int × Bool)) × (List (List Int × Int × List Bool × Bool × Int × Bool × Int × (List (Int × Bool)))) × (List (Int × (List (Int × Int × Bool × List Int)))) × List Int)) × (List (Int × Int × Bool × Int × Int × Int × Bool × List Int)) × (List (Int × (List (Int × List Int × Bool)) × (List (List Int × Int × List Bool × Bool × Int × Bool × Int × (List (Int × Bool)))) × (List (Int × (List (Int × Int × Bool × List Int)))) × List Int)) × (List (Int × Int × Bool × Int × Int × Int × Bool × List Int))) => f_impl_WorldNew.l0 n p.1 p.2.1 p.2.2.1 p.2.2.2.1 p.2.2.2.2.1 p.2.2.2.2.2.1 p.2.2.2.2.2.2.1 p.2.2.2.2.2.2.2.1 p.2.2.2.2.2.2.2.2.1 p.2.2.2.2.2.2.2.2.2) (fun _ => rfl) (fun n p => by kernel_rfl)
theorem E32 : ∀ x, funRun fs X32 6 32 C32 x = C32.fn x := fun x => by kernel_rfl
theorem B32 : ConB Try.prog 32 C32 := ConB.make FS MIX TY (cons := K32) (L := L32) (ptrs := Q32) ⟨S43, S77, trivial⟩ trivial ⟨⟨⟨N, fun p => f_impl_WorldNew.l0.ok N p⟩, trivial⟩, trivial⟩ rfl rfl E32
theorem S32 : ConS Try.prog 32 C32 := B32.call rfl
/-! laws.eqIntS: function 65 -/
noncomputable def f_laws_eqIntS.l0 : Nat → (List Int) → (List Int) → Bool → Int → Option ((Bool) ⊕ (Bool))
  | 0, _, _, _, _ => none
  | n + 1, p67, p68, p69, p70 =>
    bif (decide (p70 < (p67.length : Int))) then
      bif ((decide ((0 : Int) ≤ p70)) && (decide (p70 < (p67.length : Int)))) then
      bif ((decide ((0 : Int) ≤ p70)) && (decide (p70 < (p68.length : Int)))) then
      bif (!(decide ((p67.getD p70.toNat 0) = (p68.getD p70.toNat 0)))) then
        some (.inl false)
      else
        f_laws_eqIntS.l0 n p67 p68 p69 (IntKind.wrap .i64 (p70 + (1 : Int)))
      else none
      else none
    else
      some (.inr p69)
noncomputable def f_laws_eqIntS (x0 : List Int) (x1 : List Int) : Option (Bool) :=
  bif (!(decide ((x0.length : Int) = (x1.length : Int)))) then
    some false
  else
    (f_laws_eqIntS.l0 N x0 x1 false 0).bind fun r71 =>
    cs r71 (fun a72 =>
      some a72) (fun b73 =>
      some true)
noncomputable def C65 : Con := ⟨[(.B, false, [(.sl R0)]), (.B, false, [(.sl R0)])], [(false, [.bool])], [(.sl R0), (.sl R0)], [.bool], fun (p : List Int × List Int) => f_laws_eqIntS p.1 p.2⟩
noncomputable def f_laws_eqIntS.l0.c : LoopCon := ⟨1000, 6, [0, 1, 4, 5], ⟨[(0, .bor none R0 []), (1, .bor none R0 []), (4, .bool false), (5, .int .i64 0)], [], 1000⟩, [(.sl R0), (.sl R0), .bool, (.int .i64)], [⟨.ret, [4], ⟨[(4, .bool false)], [], 1000⟩, [.bool]⟩, ⟨.exit 0, [4], ⟨[(4, .bool false)], [], 1000⟩, [.bool]⟩], fun (p : List Int × List Int × Bool × Int) => f_laws_eqIntS.l0 N p.1 p.2.1 p.2.2.1 p.2.2.2⟩
noncomputable abbrev K65 : Cons := []
noncomputable abbrev L65 : List (Nat × Loops) := [(65, [(4, f_laws_eqIntS.l0.c)])]
abbrev Q65 : List (Nat × List (Int × Nat) × Nat) := []
noncomputable abbrev X65 : Nat → Ctx := ctxOf tb K65 L65 Q65
theorem f_laws_eqIntS.l0.ok : ∀ n p, (fun (p : List Int × List Int × Bool × Int) => f_laws_eqIntS.l0 n p.1 p.2.1 p.2.2.1 p.2.2.2) p = iterD (roundOf fs X65 6 65 4 false f_laws_eqIntS.l0.c) n p :=
  iter_of (l := fun n => fun (p : List Int × List Int × Bool × Int) => f_laws_eqIntS.l0 n p.1 p.2.1 p.2.2.1 p.2.2.2) (fun _ => rfl) (fun n p => by kernel_rfl)
theorem E65 : ∀ x, funRun fs X65 6 65 C65 x = C65.fn x := fun x => by kernel_rfl
theorem B65 : ConB Try.prog 65 C65 := ConB.make FS MIX TY (cons := K65) (L := L65) (ptrs := Q65) trivial trivial ⟨⟨⟨N, fun p => f_laws_eqIntS.l0.ok N p⟩, trivial⟩, trivial⟩ rfl rfl E65
theorem S65 : ConS Try.prog 65 C65 := B65.call rfl
/-! laws.eqFrame: function 116 -/
noncomputable def f_laws_eqFrame (x0 : Int) (x1 : List Int) (x2 : Bool) (x3 : Int) (x4 : List Int) (x5 : Bool) : Option (Bool) :=
  bif (!(decide (x0 = x3))) then
    some false
  else
    (f_laws_eqIntS x1 x4).bind fun y74 =>
    bif (!y74) then
      some false
    else
      bif (!(x2 == x5)) then
        some false
      else
        some true
noncomputable def C116 : Con := ⟨[(.B, true, [(.int .i64), (.sl R0), .bool]), (.B, true, [(.int .i64), (.sl R0), .bool])], [(false, [.bool])], [(.int .i64), (.sl R0), .bool, (.int .i64), (.sl R0), .bool], [.bool], fun (p : Int × List Int × Bool × Int × List Int × Bool) => f_laws_eqFrame p.1 p.2.1 p.2.2.1 p.2.2.2.1 p.2.2.2.2.1 p.2.2.2.2.2⟩
noncomputable abbrev K116 : Cons := [(65, C65)]
noncomputable abbrev L116 : List (Nat × Loops) := []
abbrev Q116 : List (Nat × List (Int × Nat) × Nat) := []
noncomputable abbrev X116 : Nat → Ctx := ctxOf tb K116 L116 Q116
theorem E116 : ∀ x, funRun fs X116 6 116 C116 x = C116.fn x := fun x => by kernel_rfl
theorem B116 : ConB Try.prog 116 C116 := ConB.make FS MIX TY (cons := K116) (L := L116) (ptrs := Q116) ⟨S65, trivial⟩ trivial trivial rfl rfl E116
theorem S116 : ConS Try.prog 116 C116 := B116.call rfl
/-! laws.eqFrameS: function 109 -/
noncomputable def f_laws_eqFrameS.l0 : Nat → (List (Int × List Int × Bool)) → (List (Int × List Int × Bool)) → Bool → Int → Option ((Bool) ⊕ (Bool))
  | 0, _, _, _, _ => none
  | n + 1, p75, p76, p77, p78 =>
    bif (decide (p78 < (p75.length : Int))) then
      bif ((decide ((0 : Int) ≤ p78)) && (decide (p78 < (p75.length : Int)))) then
      bif ((decide ((0 : Int) ≤ p78)) && (decide (p78 < (p76.length : Int)))) then
      (f_laws_eqFrame ((p75.getD p78.toNat (0, [], false)).1) ((p75.getD p78.toNat (0, [], false)).2.1) ((p75.getD p78.toNat (0, [], false)).2.2) ((p76.getD p78.toNat (0, [], false)).1) ((p76.getD p78.toNat (0, [], false)).2.1) ((p76.getD p78.toNat (0, [], false)).2.2)).bind fun y79 =>
      bif (!y79) then
        some (.inl false)
      else
        f_laws_eqFrameS.l0 n p75 p76 p77 (IntKind.wrap .i64 (p78 + (1 : Int)))
      else none
      else none
    else
      some (.inr p77)
noncomputable def f_laws_eqFrameS (x0 : List (Int × List Int × Bool)) (x1 : List (Int × List Int × Bool)) : Option (Bool) :=
  bif (!(decide ((x0.length : Int) = (x1.length : Int)))) then
    some false
  else
    (f_laws_eqFrameS.l0 N x0 x1 false 0).bind fun r80 =>
    cs r80 (fun a81 =>
      some a81) (fun b82 =>
      some true)
noncomputable def C109 : Con := ⟨[(.B, false, [(.sl R3)]), (.B, false, [(.sl R3)])], [(false, [.bool])], [(.sl R3), (.sl R3)], [.bool], fun (p : (List (Int × List Int × Bool)) × (List (Int × List Int × Bool))) => f_laws_eqFrameS p.1 p.2⟩
noncomputable def f_laws_eqFrameS.l0.c : LoopCon := ⟨1000, 6, [0, 1, 4, 5], ⟨[(0, .bor none R3 []), (1, .bor none R3 []), (4, .bool false), (5, .int .i64 0)], [], 1000⟩, [(.sl R3), (.sl R3), .bool, (.int .i64)], [⟨.ret, [4], ⟨[(4, .bool false)], [], 1000⟩, [.bool]⟩, ⟨.exit 0, [4], ⟨[(4, .bool false)], [], 1000⟩, [.bool]⟩], fun (p : (List (Int × List Int × Bool)) × (List (Int × List Int × Bool)) × Bool × Int) => f_laws_eqFrameS.l0 N p.1 p.2.1 p.2.2.1 p.2.2.2⟩
noncomputable abbrev K109 : Cons := [(116, C116)]
noncomputable abbrev L109 : List (Nat × Loops) := [(109, [(4, f_laws_eqFrameS.l0.c)])]
abbrev Q109 : List (Nat × List (Int × Nat) × Nat) := []
noncomputable abbrev X109 : Nat → Ctx := ctxOf tb K109 L109 Q109
theorem f_laws_eqFrameS.l0.ok : ∀ n p, (fun (p : (List (Int × List Int × Bool)) × (List (Int × List Int × Bool)) × Bool × Int) => f_laws_eqFrameS.l0 n p.1 p.2.1 p.2.2.1 p.2.2.2) p = iterD (roundOf fs X109 6 109 4 false f_laws_eqFrameS.l0.c) n p :=
  iter_of (l := fun n => fun (p : (List (Int × List Int × Bool)) × (List (Int × List Int × Bool)) × Bool × Int) => f_laws_eqFrameS.l0 n p.1 p.2.1 p.2.2.1 p.2.2.2) (fun _ => rfl) (fun n p => by kernel_rfl)
theorem E109 : ∀ x, funRun fs X109 6 109 C109 x = C109.fn x := fun x => by kernel_rfl
theorem B109 : ConB Try.prog 109 C109 := ConB.make FS MIX TY (cons := K109) (L := L109) (ptrs := Q109) ⟨S116, trivial⟩ trivial ⟨⟨⟨N, fun p => f_laws_eqFrameS.l0.ok N p⟩, trivial⟩, trivial⟩ rfl rfl E109
theorem S109 : ConS Try.prog 109 C109 := B109.call rfl
/-! laws.eqBoolS: function 66 -/
noncomputable def f_laws_eqBoolS.l0 : Nat → (List Bool) → (List Bool) → Bool → Int → Option ((Bool) ⊕ (Bool))
  | 0, _, _, _, _ => none
  | n + 1, p83, p84, p85, p86 =>
    bif (decide (p86 < (p83.length : Int))) then
      bif ((decide ((0 : Int) ≤ p86)) && (decide (p86 < (p83.length : Int)))) then
      bif ((decide ((0 : Int) ≤ p86)) && (decide (p86 < (p84.length : Int)))) then
      bif (!((p83.getD p86.toNat false) == (p84.getD p86.toNat false))) then
        some (.inl false)
      else
        f_laws_eqBoolS.l0 n p83 p84 p85 (IntKind.wrap .i64 (p86 + (1 : Int)))
      else none
      else none
    else
      some (.inr p85)
noncomputable def f_laws_eqBoolS (x0 : List Bool) (x1 : List Bool) : Option (Bool) :=
  bif (!(decide ((x0.length : Int) = (x1.length : Int)))) then
    some false
  else
    (f_laws_eqBoolS.l0 N x0 x1 false 0).bind fun r87 =>
    cs r87 (fun a88 =>
      some a88) (fun b89 =>
      some true)
noncomputable def C66 : Con := ⟨[(.B, false, [(.sl R1)]), (.B, false, [(.sl R1)])], [(false, [.bool])], [(.sl R1), (.sl R1)], [.bool], fun (p : List Bool × List Bool) => f_laws_eqBoolS p.1 p.2⟩
noncomputable def f_laws_eqBoolS.l0.c : LoopCon := ⟨1000, 6, [0, 1, 4, 5], ⟨[(0, .bor none R1 []), (1, .bor none R1 []), (4, .bool false), (5, .int .i64 0)], [], 1000⟩, [(.sl R1), (.sl R1), .bool, (.int .i64)], [⟨.ret, [4], ⟨[(4, .bool false)], [], 1000⟩, [.bool]⟩, ⟨.exit 0, [4], ⟨[(4, .bool false)], [], 1000⟩, [.bool]⟩], fun (p : List Bool × List Bool × Bool × Int) => f_laws_eqBoolS.l0 N p.1 p.2.1 p.2.2.1 p.2.2.2⟩
noncomputable abbrev K66 : Cons := []
noncomputable abbrev L66 : List (Nat × Loops) := [(66, [(4, f_laws_eqBoolS.l0.c)])]
abbrev Q66 : List (Nat × List (Int × Nat) × Nat) := []
noncomputable abbrev X66 : Nat → Ctx := ctxOf tb K66 L66 Q66
theorem f_laws_eqBoolS.l0.ok : ∀ n p, (fun (p : List Bool × List Bool × Bool × Int) => f_laws_eqBoolS.l0 n p.1 p.2.1 p.2.2.1 p.2.2.2) p = iterD (roundOf fs X66 6 66 4 false f_laws_eqBoolS.l0.c) n p :=
  iter_of (l := fun n => fun (p : List Bool × List Bool × Bool × Int) => f_laws_eqBoolS.l0 n p.1 p.2.1 p.2.2.1 p.2.2.2) (fun _ => rfl) (fun n p => by kernel_rfl)
theorem E66 : ∀ x, funRun fs X66 6 66 C66 x = C66.fn x := fun x => by kernel_rfl
theorem B66 : ConB Try.prog 66 C66 := ConB.make FS MIX TY (cons := K66) (L := L66) (ptrs := Q66) trivial trivial ⟨⟨⟨N, fun p => f_laws_eqBoolS.l0.ok N p⟩, trivial⟩, trivial⟩ rfl rfl E66
theorem S66 : ConS Try.prog 66 C66 := B66.call rfl
/-! laws.eqWait: function 67 -/
noncomputable def f_laws_eqWait (x0 : Int) (x1 : Bool) (x2 : Int) (x3 : Bool) : Option (Bool) :=
  bif (!(decide (x0 = x2))) then
    some false
  else
    bif (!(x1 == x3)) then
      some false
    else
      some true
noncomputable def C67 : Con := ⟨[(.B, true, [(.int .i64), .bool]), (.B, true, [(.int .i64), .bool])], [(false, [.bool])], [(.int .i64), .bool, (.int .i64), .bool], [.bool], fun (p : Int × Bool × Int × Bool) => f_laws_eqWait p.1 p.2.1 p.2.2.1 p.2.2.2⟩
noncomputable abbrev K67 : Cons := []
noncomputable abbrev L67 : List (Nat × Loops) := []
abbrev Q67 : List (Nat × List (Int × Nat) × Nat) := []
noncomputable abbrev X67 : Nat → Ctx := ctxOf tb K67 L67 Q67
theorem E67 : ∀ x, funRun fs X67 6 67 C67 x = C67.fn x := fun x => by kernel_rfl
theorem B67 : ConB Try.prog 67 C67 := ConB.make FS MIX TY (cons := K67) (L := L67) (ptrs := Q67) trivial trivial trivial rfl rfl E67
theorem S67 : ConS Try.prog 67 C67 := B67.call rfl
/-! laws.eqWaitS: function 68 -/
noncomputable def f_laws_eqWaitS.l0 : Nat → (List (Int × Bool)) → (List (Int × Bool)) → Bool → Int → Option ((Bool) ⊕ (Bool))
  | 0, _, _, _, _ => none
  | n + 1, p90, p91, p92, p93 =>
    bif (decide (p93 < (p90.length : Int))) then
      bif ((decide ((0 : Int) ≤ p93)) && (decide (p93 < (p90.length : Int)))) then
      bif ((decide ((0 : Int) ≤ p93)) && (decide (p93 < (p91.length : Int)))) then
      (f_laws_eqWait ((p90.getD p93.toNat (0, false)).1) ((p90.getD p93.toNat (0, false)).2) ((p91.getD p93.toNat (0, false)).1) ((p91.getD p93.toNat (0, false)).2)).bind fun y94 =>
      bif (!y94) then
        some (.inl false)
      else
        f_laws_eqWaitS.l0 n p90 p91 p92 (IntKind.wrap .i64 (p93 + (1 : Int)))
      else none
      else none
    else
      some (.inr p92)
noncomputable def f_laws_eqWaitS (x0 : List (Int × Bool)) (x1 : List (Int × Bool)) : Option (Bool) :=
  bif (!(decide ((x0.length : Int) = (x1.length : Int)))) then
    some false
  else
    (f_laws_eqWaitS.l0 N x0 x1 false 0).bind fun r95 =>
    cs r95 (fun a96 =>
      some a96) (fun b97 =>
      some true)
noncomputable def C68 : Con := ⟨[(.B, false, [(.sl R2)]), (.B, false, [(.sl R2)])], [(false, [.bool])], [(.sl R2), (.sl R2)], [.bool], fun (p : (List (Int × Bool)) × (List (Int × Bool))) => f_laws_eqWaitS p.1 p.2⟩
noncomputable def f_laws_eqWaitS.l0.c : LoopCon := ⟨1000, 6, [0, 1, 4, 5], ⟨[(0, .bor none R2 []), (1, .bor none R2 []), (4, .bool false), (5, .int .i64 0)], [], 1000⟩, [(.sl R2), (.sl R2), .bool, (.int .i64)], [⟨.ret, [4], ⟨[(4, .bool false)], [], 1000⟩, [.bool]⟩, ⟨.exit 0, [4], ⟨[(4, .bool false)], [], 1000⟩, [.bool]⟩], fun (p : (List (Int × Bool)) × (List (Int × Bool)) × Bool × Int) => f_laws_eqWaitS.l0 N p.1 p.2.1 p.2.2.1 p.2.2.2⟩
noncomputable abbrev K68 : Cons := [(67, C67)]
noncomputable abbrev L68 : List (Nat × Loops) := [(68, [(4, f_laws_eqWaitS.l0.c)])]
abbrev Q68 : List (Nat × List (Int × Nat) × Nat) := []
noncomputable abbrev X68 : Nat → Ctx := ctxOf tb K68 L68 Q68
theorem f_laws_eqWaitS.l0.ok : ∀ n p, (fun (p : (List (Int × Bool)) × (List (Int × Bool)) × Bool × Int) => f_laws_eqWaitS.l0 n p.1 p.2.1 p.2.2.1 p.2.2.2) p = iterD (roundOf fs X68 6 68 4 false f_laws_eqWaitS.l0.c) n p :=
  iter_of (l := fun n => fun (p : (List (Int × Bool)) × (List (Int × Bool)) × Bool × Int) => f_laws_eqWaitS.l0 n p.1 p.2.1 p.2.2.1 p.2.2.2) (fun _ => rfl) (fun n p => by kernel_rfl)
theorem E68 : ∀ x, funRun fs X68 6 68 C68 x = C68.fn x := fun x => by kernel_rfl
theorem B68 : ConB Try.prog 68 C68 := ConB.make FS MIX TY (cons := K68) (L := L68) (ptrs := Q68) ⟨S67, trivial⟩ trivial ⟨⟨⟨N, fun p => f_laws_eqWaitS.l0.ok N p⟩, trivial⟩, trivial⟩ rfl rfl E68
theorem S68 : ConS Try.prog 68 C68 := B68.call rfl
/-! laws.eqHome: function 23 -/
noncomputable def f_laws_eqHome (x0 : List Int) (x1 : Int) (x2 : List Bool) (x3 : Bool) (x4 : Int) (x5 : Bool) (x6 : Int) (x7 : List (Int × Bool)) (x8 : List Int) (x9 : Int) (x10 : List Bool) (x11 : Bool) (x12 : Int) (x13 : Bool) (x14 : Int) (x15 : List (Int × Bool)) : Option (Bool) :=
  (f_laws_eqIntS x0 x8).bind fun y98 =>
  bif (!y98) then
    some false
  else
    bif (!(decide (x1 = x9))) then
      some false
    else
      (f_laws_eqBoolS x2 x10).bind fun y99 =>
      bif (!y99) then
        some false
      else
        bif (!(x3 == x11)) then
          some false
        else
          (f_laws_eqWait x4 x5 x12 x13).bind fun y100 =>
          bif (!y100) then
            some false
          else
            bif (!(decide (x6 = x14))) then
              some false
            else
              (f_laws_eqWaitS x7 x15).bind fun y101 =>
              bif (!y101) then
                some false
              else
                some true
noncomputable def C23 : Con := ⟨[(.B, true, [(.sl R0), (.int .i64), (.sl R1), .bool, (.int .i64), .bool, (.int .i64), (.sl R2)]), (.B, true, [(.sl R0), (.int .i64), (.sl R1), .bool, (.int .i64), .bool, (.int .i64), (.sl R2)])], [(false, [.bool])], [(.sl R0), (.int .i64), (.sl R1), .bool, (.int .i64), .bool, (.int .i64), (.sl R2), (.sl R0), (.int .i64), (.sl R1), .bool, (.int .i64), .bool, (.int .i64), (.sl R2)], [.bool], fun (p : List Int × Int × List Bool × Bool × Int × Bool × Int × (List (Int × Bool)) × List Int × Int × List Bool × Bool × Int × Bool × Int × (List (Int × Bool))) => f_laws_eqHome p.1 p.2.1 p.2.2.1 p.2.2.2.1 p.2.2.2.2.1 p.2.2.2.2.2.1 p.2.2.2.2.2.2.1 p.2.2.2.2.2.2.2.1 p.2.2.2.2.2.2.2.2.1 p.2.2.2.2.2.2.2.2.2.1 p.2.2.2.2.2.2.2.2.2.2.1 p.2.2.2.2.2.2.2.2.2.2.2.1 p.2.2.2.2.2.2.2.2.2.2.2.2.1 p.2.2.2.2.2.2.2.2.2.2.2.2.2.1 p.2.2.2.2.2.2.2.2.2.2.2.2.2.2.1 p.2.2.2.2.2.2.2.2.2.2.2.2.2.2.2⟩
noncomputable abbrev K23 : Cons := [(65, C65), (66, C66), (67, C67), (68, C68)]
noncomputable abbrev L23 : List (Nat × Loops) := []
abbrev Q23 : List (Nat × List (Int × Nat) × Nat) := []
noncomputable abbrev X23 : Nat → Ctx := ctxOf tb K23 L23 Q23
theorem E23 : ∀ x, funRun fs X23 6 23 C23 x = C23.fn x := fun x => by kernel_rfl
theorem B23 : ConB Try.prog 23 C23 := ConB.make FS MIX TY (cons := K23) (L := L23) (ptrs := Q23) ⟨S65, S66, S67, S68, trivial⟩ trivial trivial rfl rfl E23
theorem S23 : ConS Try.prog 23 C23 := B23.call rfl
/-! laws.eqHomeS: function 110 -/
noncomputable def f_laws_eqHomeS.l0 : Nat → (List (List Int × Int × List Bool × Bool × Int × Bool × Int × (List (Int × Bool)))) → (List (List Int × Int × List Bool × Bool × Int × Bool × Int × (List (Int × Bool)))) → Bool → Int → Option ((Bool) ⊕ (Bool))
  | 0, _, _, _, _ => none
  | n + 1, p102, p103, p104, p105 =>
    bif (decide (p105 < (p102.length : Int))) then
      bif ((decide ((0 : Int) ≤ p105)) && (decide (p105 < (p102.length : Int)))) then
      bif ((decide ((0 : Int) ≤ p105)) && (decide (p105 < (p103.length : Int)))) then
      (f_laws_eqHome ((p102.getD p105.toNat ([], 0, [], false, 0, false, 0, [])).1) ((p102.getD p105.toNat ([], 0, [], false, 0, false, 0, [])).2.1) ((p102.getD p105.toNat ([], 0, [], false, 0, false, 0, [])).2.2.1) ((p102.getD p105.toNat ([], 0, [], false, 0, false, 0, [])).2.2.2.1) ((p102.getD p105.toNat ([], 0, [], false, 0, false, 0, [])).2.2.2.2.1) ((p102.getD p105.toNat ([], 0, [], false, 0, false, 0, [])).2.2.2.2.2.1) ((p102.getD p105.toNat ([], 0, [], false, 0, false, 0, [])).2.2.2.2.2.2.1) ((p102.getD p105.toNat ([], 0, [], false, 0, false, 0, [])).2.2.2.2.2.2.2) ((p103.getD p105.toNat ([], 0, [], false, 0, false, 0, [])).1) ((p103.getD p105.toNat ([], 0, [], false, 0, false, 0, [])).2.1) ((p103.getD p105.toNat ([], 0, [], false, 0, false, 0, [])).2.2.1) ((p103.getD p105.toNat ([], 0, [], false, 0, false, 0, [])).2.2.2.1) ((p103.getD p105.toNat ([], 0, [], false, 0, false, 0, [])).2.2.2.2.1) ((p103.getD p105.toNat ([], 0, [], false, 0, false, 0, [])).2.2.2.2.2.1) ((p103.getD p105.toNat ([], 0, [], false, 0, false, 0, [])).2.2.2.2.2.2.1) ((p103.getD p105.toNat ([], 0, [], false, 0, false, 0, [])).2.2.2.2.2.2.2)).bind fun y106 =>
      bif (!y106) then
        some (.inl false)
      else
        f_laws_eqHomeS.l0 n p102 p103 p104 (IntKind.wrap .i64 (p105 + (1 : Int)))
      else none
      else none
    else
      some (.inr p104)
noncomputable def f_laws_eqHomeS (x0 : List (List Int × Int × List Bool × Bool × Int × Bool × Int × (List (Int × Bool)))) (x1 : List (List Int × Int × List Bool × Bool × Int × Bool × Int × (List (Int × Bool)))) : Option (Bool) :=
  bif (!(decide ((x0.length : Int) = (x1.length : Int)))) then
    some false
  else
    (f_laws_eqHomeS.l0 N x0 x1 false 0).bind fun r107 =>
    cs r107 (fun a108 =>
      some a108) (fun b109 =>
      some true)
noncomputable def C110 : Con := ⟨[(.B, false, [(.sl R4)]), (.B, false, [(.sl R4)])], [(false, [.bool])], [(.sl R4), (.sl R4)], [.bool], fun (p : (List (List Int × Int × List Bool × Bool × Int × Bool × Int × (List (Int × Bool)))) × (List (List Int × Int × List Bool × Bool × Int × Bool × Int × (List (Int × Bool))))) => f_laws_eqHomeS p.1 p.2⟩
noncomputable def f_laws_eqHomeS.l0.c : LoopCon := ⟨1000, 6, [0, 1, 4, 5], ⟨[(0, .bor none R4 []), (1, .bor none R4 []), (4, .bool false), (5, .int .i64 0)], [], 1000⟩, [(.sl R4), (.sl R4), .bool, (.int .i64)], [⟨.ret, [4], ⟨[(4, .bool false)], [], 1000⟩, [.bool]⟩, ⟨.exit 0, [4], ⟨[(4, .bool false)], [], 1000⟩, [.bool]⟩], fun (p : (List (List Int × Int × List Bool × Bool × Int × Bool × Int × (List (Int × Bool)))) × (List (List Int × Int × List Bool × Bool × Int × Bool × Int × (List (Int × Bool)))) × Bool × Int) => f_laws_eqHomeS.l0 N p.1 p.2.1 p.2.2.1 p.2.2.2⟩
noncomputable abbrev K110 : Cons := [(23, C23)]
noncomputable abbrev L110 : List (Nat × Loops) := [(110, [(4, f_laws_eqHomeS.l0.c)])]
abbrev Q110 : List (Nat × List (Int × Nat) × Nat) := []
noncomputable abbrev X110 : Nat → Ctx := ctxOf tb K110 L110 Q110
theorem f_laws_eqHomeS.l0.ok : ∀ n p, (fun (p : (List (List Int × Int × List Bool × Bool × Int × Bool × Int × (List (Int × Bool)))) × (List (List Int × Int × List Bool × Bool × Int × Bool × Int × (List (Int × Bool)))) × Bool × Int) => f_laws_eqHomeS.l0 n p.1 p.2.1 p.2.2.1 p.2.2.2) p = iterD (roundOf fs X110 6 110 4 false f_laws_eqHomeS.l0.c) n p :=
  iter_of (l := fun n => fun (p : (List (List Int × Int × List Bool × Bool × Int × Bool × Int × (List (Int × Bool)))) × (List (List Int × Int × List Bool × Bool × Int × Bool × Int × (List (Int × Bool)))) × Bool × Int) => f_laws_eqHomeS.l0 n p.1 p.2.1 p.2.2.1 p.2.2.2) (fun _ => rfl) (fun n p => by kernel_rfl)
theorem E110 : ∀ x, funRun fs X110 6 110 C110 x = C110.fn x := fun x => by kernel_rfl
theorem B110 : ConB Try.prog 110 C110 := ConB.make FS MIX TY (cons := K110) (L := L110) (ptrs := Q110) ⟨S23, trivial⟩ trivial ⟨⟨⟨N, fun p => f_laws_eqHomeS.l0.ok N p⟩, trivial⟩, trivial⟩ rfl rfl E110
theorem S110 : ConS Try.prog 110 C110 := B110.call rfl
/-! laws.eqMsg: function 25 -/
noncomputable def f_laws_eqMsg (x0 : Int) (x1 : Int) (x2 : Bool) (x3 : List Int) (x4 : Int) (x5 : Int) (x6 : Bool) (x7 : List Int) : Option (Bool) :=
  bif (!(decide (x0 = x4))) then
    some false
  else
    bif (!(decide (x1 = x5))) then
      some false
    else
      bif (!(x2 == x6)) then
        some false
      else
        (f_laws_eqIntS x3 x7).bind fun y110 =>
        bif (!y110) then
          some false
        else
          some true
noncomputable def C25 : Con := ⟨[(.B, true, [(.int .i64), (.int .i64), .bool, (.sl R0)]), (.B, true, [(.int .i64), (.int .i64), .bool, (.sl R0)])], [(false, [.bool])], [(.int .i64), (.int .i64), .bool, (.sl R0), (.int .i64), (.int .i64), .bool, (.sl R0)], [.bool], fun (p : Int × Int × Bool × List Int × Int × Int × Bool × List Int) => f_laws_eqMsg p.1 p.2.1 p.2.2.1 p.2.2.2.1 p.2.2.2.2.1 p.2.2.2.2.2.1 p.2.2.2.2.2.2.1 p.2.2.2.2.2.2.2⟩
noncomputable abbrev K25 : Cons := [(65, C65)]
noncomputable abbrev L25 : List (Nat × Loops) := []
abbrev Q25 : List (Nat × List (Int × Nat) × Nat) := []
noncomputable abbrev X25 : Nat → Ctx := ctxOf tb K25 L25 Q25
theorem E25 : ∀ x, funRun fs X25 6 25 C25 x = C25.fn x := fun x => by kernel_rfl
theorem B25 : ConB Try.prog 25 C25 := ConB.make FS MIX TY (cons := K25) (L := L25) (ptrs := Q25) ⟨S65, trivial⟩ trivial trivial rfl rfl E25
theorem S25 : ConS Try.prog 25 C25 := B25.call rfl
/-! laws.eqMsgS: function 119 -/
noncomputable def f_laws_eqMsgS.l0 : Nat → (List (Int × Int × Bool × List Int)) → (List (Int × Int × Bool × List Int)) → Bool → Int → Option ((Bool) ⊕ (Bool))
  | 0, _, _, _, _ => none
  | n + 1, p111, p112, p113, p114 =>
    bif (decide (p114 < (p111.length : Int))) then
      bif ((decide ((0 : Int) ≤ p114)) && (decide (p114 < (p111.length : Int)))) then
      bif ((decide ((0 : Int) ≤ p114)) && (decide (p114 < (p112.length : Int)))) then
      (f_laws_eqMsg ((p111.getD p114.toNat (0, 0, false, [])).1) ((p111.getD p114.toNat (0, 0, false, [])).2.1) ((p111.getD p114.toNat (0, 0, false, [])).2.2.1) ((p111.getD p114.toNat (0, 0, false, [])).2.2.2) ((p112.getD p114.toNat (0, 0, false, [])).1) ((p112.getD p114.toNat (0, 0, false, [])).2.1) ((p112.getD p114.toNat (0, 0, false, [])).2.2.1) ((p112.getD p114.toNat (0, 0, false, [])).2.2.2)).bind fun y115 =>
      bif (!y115) then
        some (.inl false)
      else
        f_laws_eqMsgS.l0 n p111 p112 p113 (IntKind.wrap .i64 (p114 + (1 : Int)))
      else none
      else none
    else
      some (.inr p113)
noncomputable def f_laws_eqMsgS (x0 : List (Int × Int × Bool × List Int)) (x1 : List (Int × Int × Bool × List Int)) : Option (Bool) :=
  bif (!(decide ((x0.length : Int) = (x1.length : Int)))) then
    some false
  else
    (f_laws_eqMsgS.l0 N x0 x1 false 0).bind fun r116 =>
    cs r116 (fun a117 =>
      some a117) (fun b118 =>
      some true)
noncomputable def C119 : Con := ⟨[(.B, false, [(.sl R5)]), (.B, false, [(.sl R5)])], [(false, [.bool])], [(.sl R5), (.sl R5)], [.bool], fun (p : (List (Int × Int × Bool × List Int)) × (List (Int × Int × Bool × List Int))) => f_laws_eqMsgS p.1 p.2⟩
noncomputable def f_laws_eqMsgS.l0.c : LoopCon := ⟨1000, 6, [0, 1, 4, 5], ⟨[(0, .bor none R5 []), (1, .bor none R5 []), (4, .bool false), (5, .int .i64 0)], [], 1000⟩, [(.sl R5), (.sl R5), .bool, (.int .i64)], [⟨.ret, [4], ⟨[(4, .bool false)], [], 1000⟩, [.bool]⟩, ⟨.exit 0, [4], ⟨[(4, .bool false)], [], 1000⟩, [.bool]⟩], fun (p : (List (Int × Int × Bool × List Int)) × (List (Int × Int × Bool × List Int)) × Bool × Int) => f_laws_eqMsgS.l0 N p.1 p.2.1 p.2.2.1 p.2.2.2⟩
noncomputable abbrev K119 : Cons := [(25, C25)]
noncomputable abbrev L119 : List (Nat × Loops) := [(119, [(4, f_laws_eqMsgS.l0.c)])]
abbrev Q119 : List (Nat × List (Int × Nat) × Nat) := []
noncomputable abbrev X119 : Nat → Ctx := ctxOf tb K119 L119 Q119
theorem f_laws_eqMsgS.l0.ok : ∀ n p, (fun (p : (List (Int × Int × Bool × List Int)) × (List (Int × Int × Bool × List Int)) × Bool × Int) => f_laws_eqMsgS.l0 n p.1 p.2.1 p.2.2.1 p.2.2.2) p = iterD (roundOf fs X119 6 119 4 false f_laws_eqMsgS.l0.c) n p :=
  iter_of (l := fun n => fun (p : (List (Int × Int × Bool × List Int)) × (List (Int × Int × Bool × List Int)) × Bool × Int) => f_laws_eqMsgS.l0 n p.1 p.2.1 p.2.2.1 p.2.2.2) (fun _ => rfl) (fun n p => by kernel_rfl)
theorem E119 : ∀ x, funRun fs X119 6 119 C119 x = C119.fn x := fun x => by kernel_rfl
theorem B119 : ConB Try.prog 119 C119 := ConB.make FS MIX TY (cons := K119) (L := L119) (ptrs := Q119) ⟨S25, trivial⟩ trivial ⟨⟨⟨N, fun p => f_laws_eqMsgS.l0.ok N p⟩, trivial⟩, trivial⟩ rfl rfl E119
theorem S119 : ConS Try.prog 119 C119 := B119.call rfl
/-! laws.eqSender: function 117 -/
noncomputable def f_laws_eqSender (x0 : Int) (x1 : List (Int × Int × Bool × List Int)) (x2 : Int) (x3 : List (Int × Int × Bool × List Int)) : Option (Bool) :=
  bif (!(decide (x0 = x2))) then
    some false
  else
    (f_laws_eqMsgS x1 x3).bind fun y119 =>
    bif (!y119) then
      some false
    else
      some true
noncomputable def C117 : Con := ⟨[(.B, true, [(.int .i64), (.sl R5)]), (.B, true, [(.int .i64), (.sl R5)])], [(false, [.bool])], [(.int .i64), (.sl R5), (.int .i64), (.sl R5)], [.bool], fun (p : Int × (List (Int × Int × Bool × List Int)) × Int × (List (Int × Int × Bool × List Int))) => f_laws_eqSender p.1 p.2.1 p.2.2.1 p.2.2.2⟩
noncomputable abbrev K117 : Cons := [(119, C119)]
noncomputable abbrev L117 : List (Nat × Loops) := []
abbrev Q117 : List (Nat × List (Int × Nat) × Nat) := []
noncomputable abbrev X117 : Nat → Ctx := ctxOf tb K117 L117 Q117
theorem E117 : ∀ x, funRun fs X117 6 117 C117 x = C117.fn x := fun x => by kernel_rfl
theorem B117 : ConB Try.prog 117 C117 := ConB.make FS MIX TY (cons := K117) (L := L117) (ptrs := Q117) ⟨S119, trivial⟩ trivial trivial rfl rfl E117
theorem S117 : ConS Try.prog 117 C117 := B117.call rfl
/-! laws.eqSenderS: function 111 -/
noncomputable def f_laws_eqSenderS.l0 : Nat → (List (Int × (List (Int × Int × Bool × List Int)))) → (List (Int × (List (Int × Int × Bool × List Int)))) → Bool → Int → Option ((Bool) ⊕ (Bool))
  | 0, _, _, _, _ => none
  | n + 1, p120, p121, p122, p123 =>
    bif (decide (p123 < (p120.length : Int))) then
      bif ((decide ((0 : Int) ≤ p123)) && (decide (p123 < (p120.length : Int)))) then
      bif ((decide ((0 : Int) ≤ p123)) && (decide (p123 < (p121.length : Int)))) then
      (f_laws_eqSender ((p120.getD p123.toNat (0, [])).1) ((p120.getD p123.toNat (0, [])).2) ((p121.getD p123.toNat (0, [])).1) ((p121.getD p123.toNat (0, [])).2)).bind fun y124 =>
      bif (!y124) then
        some (.inl false)
      else
        f_laws_eqSenderS.l0 n p120 p121 p122 (IntKind.wrap .i64 (p123 + (1 : Int)))
      else none
      else none
    else
      some (.inr p122)
noncomputable def f_laws_eqSenderS (x0 : List (Int × (List (Int × Int × Bool × List Int)))) (x1 : List (Int × (List (Int × Int × Bool × List Int)))) : Option (Bool) :=
  bif (!(decide ((x0.length : Int) = (x1.length : Int)))) then
    some false
  else
    (f_laws_eqSenderS.l0 N x0 x1 false 0).bind fun r125 =>
    cs r125 (fun a126 =>
      some a126) (fun b127 =>
      some true)
noncomputable def C111 : Con := ⟨[(.B, false, [(.sl R6)]), (.B, false, [(.sl R6)])], [(false, [.bool])], [(.sl R6), (.sl R6)], [.bool], fun (p : (List (Int × (List (Int × Int × Bool × List Int)))) × (List (Int × (List (Int × Int × Bool × List Int))))) => f_laws_eqSenderS p.1 p.2⟩
noncomputable def f_laws_eqSenderS.l0.c : LoopCon := ⟨1000, 6, [0, 1, 4, 5], ⟨[(0, .bor none R6 []), (1, .bor none R6 []), (4, .bool false), (5, .int .i64 0)], [], 1000⟩, [(.sl R6), (.sl R6), .bool, (.int .i64)], [⟨.ret, [4], ⟨[(4, .bool false)], [], 1000⟩, [.bool]⟩, ⟨.exit 0, [4], ⟨[(4, .bool false)], [], 1000⟩, [.bool]⟩], fun (p : (List (Int × (List (Int × Int × Bool × List Int)))) × (List (Int × (List (Int × Int × Bool × List Int)))) × Bool × Int) => f_laws_eqSenderS.l0 N p.1 p.2.1 p.2.2.1 p.2.2.2⟩
noncomputable abbrev K111 : Cons := [(117, C117)]
noncomputable abbrev L111 : List (Nat × Loops) := [(111, [(4, f_laws_eqSenderS.l0.c)])]
abbrev Q111 : List (Nat × List (Int × Nat) × Nat) := []
noncomputable abbrev X111 : Nat → Ctx := ctxOf tb K111 L111 Q111
theorem f_laws_eqSenderS.l0.ok : ∀ n p, (fun (p : (List (Int × (List (Int × Int × Bool × List Int)))) × (List (Int × (List (Int × Int × Bool × List Int)))) × Bool × Int) => f_laws_eqSenderS.l0 n p.1 p.2.1 p.2.2.1 p.2.2.2) p = iterD (roundOf fs X111 6 111 4 false f_laws_eqSenderS.l0.c) n p :=
  iter_of (l := fun n => fun (p : (List (Int × (List (Int × Int × Bool × List Int)))) × (List (Int × (List (Int × Int × Bool × List Int)))) × Bool × Int) => f_laws_eqSenderS.l0 n p.1 p.2.1 p.2.2.1 p.2.2.2) (fun _ => rfl) (fun n p => by kernel_rfl)
theorem E111 : ∀ x, funRun fs X111 6 111 C111 x = C111.fn x := fun x => by kernel_rfl
theorem B111 : ConB Try.prog 111 C111 := ConB.make FS MIX TY (cons := K111) (L := L111) (ptrs := Q111) ⟨S117, trivial⟩ trivial ⟨⟨⟨N, fun p => f_laws_eqSenderS.l0.ok N p⟩, trivial⟩, trivial⟩ rfl rfl E111
theorem S111 : ConS Try.prog 111 C111 := B111.call rfl
/-! laws.eqReceiver: function 118 -/
noncomputable def f_laws_eqReceiver (x0 : Int) (x1 : Int) : Option (Bool) :=
  bif (!(decide (x0 = x1))) then
    some false
  else
    some true
noncomputable def C118 : Con := ⟨[(.B, true, [(.int .i64)]), (.B, true, [(.int .i64)])], [(false, [.bool])], [(.int .i64), (.int .i64)], [.bool], fun (p : Int × Int) => f_laws_eqReceiver p.1 p.2⟩
noncomputable abbrev K118 : Cons := []
noncomputable abbrev L118 : List (Nat × Loops) := []
abbrev Q118 : List (Nat × List (Int × Nat) × Nat) := []
noncomputable abbrev X118 : Nat → Ctx := ctxOf tb K118 L118 Q118
theorem E118 : ∀ x, funRun fs X118 6 118 C118 x = C118.fn x := fun x => by kernel_rfl
theorem B118 : ConB Try.prog 118 C118 := ConB.make FS MIX TY (cons := K118) (L := L118) (ptrs := Q118) trivial trivial trivial rfl rfl E118
theorem S118 : ConS Try.prog 118 C118 := B118.call rfl
/-! laws.eqReceiverS: function 112 -/
noncomputable def f_laws_eqReceiverS.l0 : Nat → (List Int) → (List Int) → Bool → Int → Option ((Bool) ⊕ (Bool))
  | 0, _, _, _, _ => none
  | n + 1, p128, p129, p130, p131 =>
    bif (decide (p131 < (p128.length : Int))) then
      bif ((decide ((0 : Int) ≤ p131)) && (decide (p131 < (p128.length : Int)))) then
      bif ((decide ((0 : Int) ≤ p131)) && (decide (p131 < (p129.length : Int)))) then
      (f_laws_eqReceiver (p128.getD p131.toNat 0) (p129.getD p131.toNat 0)).bind fun y132 =>
      bif (!y132) then
        some (.inl false)
      else
        f_laws_eqReceiverS.l0 n p128 p129 p130 (IntKind.wrap .i64 (p131 + (1 : Int)))
      else none
      else none
    else
      some (.inr p130)
noncomputable def f_laws_eqReceiverS (x0 : List Int) (x1 : List Int) : Option (Bool) :=
  bif (!(decide ((x0.length : Int) = (x1.length : Int)))) then
    some false
  else
    (f_laws_eqReceiverS.l0 N x0 x1 false 0).bind fun r133 =>
    cs r133 (fun a134 =>
      some a134) (fun b135 =>
      some true)
noncomputable def C112 : Con := ⟨[(.B, false, [(.sl R0)]), (.B, false, [(.sl R0)])], [(false, [.bool])], [(.sl R0), (.sl R0)], [.bool], fun (p : List Int × List Int) => f_laws_eqReceiverS p.1 p.2⟩
noncomputable def f_laws_eqReceiverS.l0.c : LoopCon := ⟨1000, 6, [0, 1, 4, 5], ⟨[(0, .bor none R0 []), (1, .bor none R0 []), (4, .bool false), (5, .int .i64 0)], [], 1000⟩, [(.sl R0), (.sl R0), .bool, (.int .i64)], [⟨.ret, [4], ⟨[(4, .bool false)], [], 1000⟩, [.bool]⟩, ⟨.exit 0, [4], ⟨[(4, .bool false)], [], 1000⟩, [.bool]⟩], fun (p : List Int × List Int × Bool × Int) => f_laws_eqReceiverS.l0 N p.1 p.2.1 p.2.2.1 p.2.2.2⟩
noncomputable abbrev K112 : Cons := [(118, C118)]
noncomputable abbrev L112 : List (Nat × Loops) := [(112, [(4, f_laws_eqReceiverS.l0.c)])]
abbrev Q112 : List (Nat × List (Int × Nat) × Nat) := []
noncomputable abbrev X112 : Nat → Ctx := ctxOf tb K112 L112 Q112
theorem f_laws_eqReceiverS.l0.ok : ∀ n p, (fun (p : List Int × List Int × Bool × Int) => f_laws_eqReceiverS.l0 n p.1 p.2.1 p.2.2.1 p.2.2.2) p = iterD (roundOf fs X112 6 112 4 false f_laws_eqReceiverS.l0.c) n p :=
  iter_of (l := fun n => fun (p : List Int × List Int × Bool × Int) => f_laws_eqReceiverS.l0 n p.1 p.2.1 p.2.2.1 p.2.2.2) (fun _ => rfl) (fun n p => by kernel_rfl)
theorem E112 : ∀ x, funRun fs X112 6 112 C112 x = C112.fn x := fun x => by kernel_rfl
theorem B112 : ConB Try.prog 112 C112 := ConB.make FS MIX TY (cons := K112) (L := L112) (ptrs := Q112) ⟨S118, trivial⟩ trivial ⟨⟨⟨N, fun p => f_laws_eqReceiverS.l0.ok N p⟩, trivial⟩, trivial⟩ rfl rfl E112
theorem S112 : ConS Try.prog 112 C112 := B112.call rfl
/-! laws.eqNode: function 95 -/
noncomputable def f_laws_eqNode (x0 : Int) (x1 : List (Int × List Int × Bool)) (x2 : List (List Int × Int × List Bool × Bool × Int × Bool × Int × (List (Int × Bool)))) (x3 : List (Int × (List (Int × Int × Bool × List Int)))) (x4 : List Int) (x5 : Int) (x6 : List (Int × List Int × Bool)) (x7 : List (List Int × Int × List Bool × Bool × Int × Bool × Int × (List (Int × Bool)))) (x8 : List (Int × (List (Int × Int × Bool × List Int)))) (x9 : List Int) : Option (Bool) :=
  bif (!(decide (x0 = x5))) then
    some false
  else
    (f_laws_eqFrameS x1 x6).bind fun y136 =>
    bif (!y136) then
      some false
    else
      (f_laws_eqHomeS x2 x7).bind fun y137 =>
      bif (!y137) then
        some false
      else
        (f_laws_eqSenderS x3 x8).bind fun y138 =>
        bif (!y138) then
          some false
        else
          (f_laws_eqReceiverS x4 x9).bind fun y139 =>
          bif (!y139) then
            some false
          else
            some true
noncomputable def C95 : Con := ⟨[(.B, true, [(.int .i64), (.sl R3), (.sl R4), (.sl R6), (.sl R0)]), (.B, true, [(.int .i64), (.sl R3), (.sl R4), (.sl R6), (.sl R0)])], [(false, [.bool])], [(.int .i64), (.sl R3), (.sl R4), (.sl R6), (.sl R0), (.int .i64), (.sl R3), (.sl R4), (.sl R6), (.sl R0)], [.bool], fun (p : Int × (List (Int × List Int × Bool)) × (List (List Int × Int × List Bool × Bool × Int × Bool × Int × (List (Int × Bool)))) × (List (Int × (List (Int × Int × Bool × List Int)))) × List Int × Int × (List (Int × List Int × Bool)) × (List (List Int × Int × List Bool × Bool × Int × Bool × Int × (List (Int × Bool)))) × (List (Int × (List (Int × Int × Bool × List Int)))) × List Int) => f_laws_eqNode p.1 p.2.1 p.2.2.1 p.2.2.2.1 p.2.2.2.2.1 p.2.2.2.2.2.1 p.2.2.2.2.2.2.1 p.2.2.2.2.2.2.2.1 p.2.2.2.2.2.2.2.2.1 p.2.2.2.2.2.2.2.2.2⟩
noncomputable abbrev K95 : Cons := [(109, C109), (110, C110), (111, C111), (112, C112)]
noncomputable abbrev L95 : List (Nat × Loops) := []
abbrev Q95 : List (Nat × List (Int × Nat) × Nat) := []
noncomputable abbrev X95 : Nat → Ctx := ctxOf tb K95 L95 Q95
theorem E95 : ∀ x, funRun fs X95 6 95 C95 x = C95.fn x := fun x => by kernel_rfl
theorem B95 : ConB Try.prog 95 C95 := ConB.make FS MIX TY (cons := K95) (L := L95) (ptrs := Q95) ⟨S109, S110, S111, S112, trivial⟩ trivial trivial rfl rfl E95
theorem S95 : ConS Try.prog 95 C95 := B95.call rfl
/-! laws.eqNodeS: function 78 -/
noncomputable def f_laws_eqNodeS.l0 : Nat → (List (Int × (List (Int × List Int × Bool)) × (List (List Int × Int × List Bool × Bool × Int × Bool × Int × (List (Int × Bool)))) × (List (Int × (List (Int × Int × Bool × List Int)))) × List Int)) → (List (Int × (List (Int × List Int × Bool)) × (List (List Int × Int × List Bool × Bool × Int × Bool × Int × (List (Int × Bool)))) × (List (Int × (List (Int × Int × Bool × List Int)))) × List Int)) → Bool → Int → Option ((Bool) ⊕ (Bool))
  | 0, _, _, _, _ => none
  | n + 1, p140, p141, p142, p143 =>
    bif (decide (p143 < (p140.length : Int))) then
      bif ((decide ((0 : Int) ≤ p143)) && (decide (p143 < (p140.length : Int)))) then
      bif ((decide ((0 : Int) ≤ p143)) && (decide (p143 < (p141.length : Int)))) then
      (f_laws_eqNode ((p140.getD p143.toNat (0, [], [], [], [])).1) ((p140.getD p143.toNat (0, [], [], [], [])).2.1) ((p140.getD p143.toNat (0, [], [], [], [])).2.2.1) ((p140.getD p143.toNat (0, [], [], [], [])).2.2.2.1) ((p140.getD p143.toNat (0, [], [], [], [])).2.2.2.2) ((p141.getD p143.toNat (0, [], [], [], [])).1) ((p141.getD p143.toNat (0, [], [], [], [])).2.1) ((p141.getD p143.toNat (0, [], [], [], [])).2.2.1) ((p141.getD p143.toNat (0, [], [], [], [])).2.2.2.1) ((p141.getD p143.toNat (0, [], [], [], [])).2.2.2.2)).bind fun y144 =>
      bif (!y144) then
        some (.inl false)
      else
        f_laws_eqNodeS.l0 n p140 p141 p142 (IntKind.wrap .i64 (p143 + (1 : Int)))
      else none
      else none
    else
      some (.inr p142)
noncomputable def f_laws_eqNodeS (x0 : List (Int × (List (Int × List Int × Bool)) × (List (List Int × Int × List Bool × Bool × Int × Bool × Int × (List (Int × Bool)))) × (List (Int × (List (Int × Int × Bool × List Int)))) × List Int)) (x1 : List (Int × (List (Int × List Int × Bool)) × (List (List Int × Int × List Bool × Bool × Int × Bool × Int × (List (Int × Bool)))) × (List (Int × (List (Int × Int × Bool × List Int)))) × List Int)) : Option (Bool) :=
  bif (!(decide ((x0.length : Int) = (x1.length : Int)))) then
    some false
  else
    (f_laws_eqNodeS.l0 N x0 x1 false 0).bind fun r145 =>
    cs r145 (fun a146 =>
      some a146) (fun b147 =>
      some true)
noncomputable def C78 : Con := ⟨[(.B, false, [(.sl R7)]), (.B, false, [(.sl R7)])], [(false, [.bool])], [(.sl R7), (.sl R7)], [.bool], fun (p : (List (Int × (List (Int × List Int × Bool)) × (List (List Int × Int × List Bool × Bool × Int × Bool × Int × (List (Int × Bool)))) × (List (Int × (List (Int × Int × Bool × List Int)))) × List Int)) × (List (Int × (List (Int × List Int × Bool)) × (List (List Int × Int × List Bool × Bool × Int × Bool × Int × (List (Int × Bool)))) × (List (Int × (List (Int × Int × Bool × List Int)))) × List Int))) => f_laws_eqNodeS p.1 p.2⟩
noncomputable def f_laws_eqNodeS.l0.c : LoopCon := ⟨1000, 6, [0, 1, 4, 5], ⟨[(0, .bor none R7 []), (1, .bor none R7 []), (4, .bool false), (5, .int .i64 0)], [], 1000⟩, [(.sl R7), (.sl R7), .bool, (.int .i64)], [⟨.ret, [4], ⟨[(4, .bool false)], [], 1000⟩, [.bool]⟩, ⟨.exit 0, [4], ⟨[(4, .bool false)], [], 1000⟩, [.bool]⟩], fun (p : (List (Int × (List (Int × List Int × Bool)) × (List (List Int × Int × List Bool × Bool × Int × Bool × Int × (List (Int × Bool)))) × (List (Int × (List (Int × Int × Bool × List Int)))) × List Int)) × (List (Int × (List (Int × List Int × Bool)) × (List (List Int × Int × List Bool × Bool × Int × Bool × Int × (List (Int × Bool)))) × (List (Int × (List (Int × Int × Bool × List Int)))) × List Int)) × Bool × Int) => f_laws_eqNodeS.l0 N p.1 p.2.1 p.2.2.1 p.2.2.2⟩
noncomputable abbrev K78 : Cons := [(95, C95)]
noncomputable abbrev L78 : List (Nat × Loops) := [(78, [(4, f_laws_eqNodeS.l0.c)])]
abbrev Q78 : List (Nat × List (Int × Nat) × Nat) := []
noncomputable abbrev X78 : Nat → Ctx := ctxOf tb K78 L78 Q78
theorem f_laws_eqNodeS.l0.ok : ∀ n p, (fun (p : (List (Int × (List (Int × List Int × Bool)) × (List (List Int × Int × List Bool × Bool × Int × Bool × Int × (List (Int × Bool)))) × (List (Int × (List (Int × Int × Bool × List Int)))) × List Int)) × (List (Int × (List (Int × List Int × Bool)) × (List (List Int × Int × List Bool × Bool × Int × Bool × Int × (List (Int × Bool)))) × (List (Int × (List (Int × Int × Bool × List Int)))) × List Int)) × Bool × Int) => f_laws_eqNodeS.l0 n p.1 p.2.1 p.2.2.1 p.2.2.2) p = iterD (roundOf fs X78 6 78 4 false f_laws_eqNodeS.l0.c) n p :=
  iter_of (l := fun n => fun (p : (List (Int × (List (Int × List Int × Bool)) × (List (List Int × Int × List Bool × Bool × Int × Bool × Int × (List (Int × Bool)))) × (List (Int × (List (Int × Int × Bool × List Int)))) × List Int)) × (List (Int × (List (Int × List Int × Bool)) × (List (List Int × Int × List Bool × Bool × Int × Bool × Int × (List (Int × Bool)))) × (List (Int × (List (Int × Int × Bool × List Int)))) × List Int)) × Bool × Int) => f_laws_eqNodeS.l0 n p.1 p.2.1 p.2.2.1 p.2.2.2) (fun _ => rfl) (fun n p => by kernel_rfl)
theorem E78 : ∀ x, funRun fs X78 6 78 C78 x = C78.fn x := fun x => by kernel_rfl
theorem B78 : ConB Try.prog 78 C78 := ConB.make FS MIX TY (cons := K78) (L := L78) (ptrs := Q78) ⟨S95, trivial⟩ trivial ⟨⟨⟨N, fun p => f_laws_eqNodeS.l0.ok N p⟩, trivial⟩, trivial⟩ rfl rfl E78
theorem S78 : ConS Try.prog 78 C78 := B78.call rfl
/-! laws.eqPacket: function 96 -/
noncomputable def f_laws_eqPacket (x0 : Int) (x1 : Int) (x2 : Bool) (x3 : Int) (x4 : Int) (x5 : Int) (x6 : Bool) (x7 : List Int) (x8 : Int) (x9 : Int) (x10 : Bool) (x11 : Int) (x12 : Int) (x13 : Int) (x14 : Bool) (x15 : List Int) : Option (Bool) :=
  bif (!(decide (x0 = x8))) then
    some false
  else
    bif (!(decide (x1 = x9))) then
      some false
    else
      bif (!(x2 == x10)) then
        some false
      else
        bif (!(decide (x3 = x11))) then
          some false
        else
          (f_laws_eqMsg x4 x5 x6 x7 x12 x13 x14 x15).bind fun y148 =>
          bif (!y148) then
            some false
          else
            some true
noncomputable def C96 : Con := ⟨[(.B, true, [(.int .i64), (.int .i64), .bool, (.int .i64), (.int .i64), (.int .i64), .bool, (.sl R0)]), (.B, true, [(.int .i64), (.int .i64), .bool, (.int .i64), (.int .i64), (.int .i64), .bool, (.sl R0)])], [(false, [.bool])], [(.int .i64), (.int .i64), .bool, (.int .i64), (.int .i64), (.int .i64), .bool, (.sl R0), (.int .i64), (.int .i64), .bool, (.int .i64), (.int .i64), (.int .i64), .bool, (.sl R0)], [.bool], fun (p : Int × Int × Bool × Int × Int × Int × Bool × List Int × Int × Int × Bool × Int × Int × Int × Bool × List Int) => f_laws_eqPacket p.1 p.2.1 p.2.2.1 p.2.2.2.1 p.2.2.2.2.1 p.2.2.2.2.2.1 p.2.2.2.2.2.2.1 p.2.2.2.2.2.2.2.1 p.2.2.2.2.2.2.2.2.1 p.2.2.2.2.2.2.2.2.2.1 p.2.2.2.2.2.2.2.2.2.2.1 p.2.2.2.2.2.2.2.2.2.2.2.1 p.2.2.2.2.2.2.2.2.2.2.2.2.1 p.2.2.2.2.2.2.2.2.2.2.2.2.2.1 p.2.2.2.2.2.2.2.2.2.2.2.2.2.2.1 p.2.2.2.2.2.2.2.2.2.2.2.2.2.2.2⟩
noncomputable abbrev K96 : Cons := [(25, C25)]
noncomputable abbrev L96 : List (Nat × Loops) := []
abbrev Q96 : List (Nat × List (Int × Nat) × Nat) := []
noncomputable abbrev X96 : Nat → Ctx := ctxOf tb K96 L96 Q96
theorem E96 : ∀ x, funRun fs X96 6 96 C96 x = C96.fn x := fun x => by kernel_rfl
theorem B96 : ConB Try.prog 96 C96 := ConB.make FS MIX TY (cons := K96) (L := L96) (ptrs := Q96) ⟨S25, trivial⟩ trivial trivial rfl rfl E96
theorem S96 : ConS Try.prog 96 C96 := B96.call rfl
/-! laws.eqPacketS: function 79 -/
noncomputable def f_laws_eqPacketS.l0 : Nat → (List (Int × Int × Bool × Int × Int × Int × Bool × List Int)) → (List (Int × Int × Bool × Int × Int × Int × Bool × List Int)) → Bool → Int → Option ((Bool) ⊕ (Bool))
  | 0, _, _, _, _ => none
  | n + 1, p149, p150, p151, p152 =>
    bif (decide (p152 < (p149.length : Int))) then
      bif ((decide ((0 : Int) ≤ p152)) && (decide (p152 < (p149.length : Int)))) then
      bif ((decide ((0 : Int) ≤ p152)) && (decide (p152 < (p150.length : Int)))) then
      (f_laws_eqPacket ((p149.getD p152.toNat (0, 0, false, 0, 0, 0, false, [])).1) ((p149.getD p152.toNat (0, 0, false, 0, 0, 0, false, [])).2.1) ((p149.getD p152.toNat (0, 0, false, 0, 0, 0, false, [])).2.2.1) ((p149.getD p152.toNat (0, 0, false, 0, 0, 0, false, [])).2.2.2.1) ((p149.getD p152.toNat (0, 0, false, 0, 0, 0, false, [])).2.2.2.2.1) ((p149.getD p152.toNat (0, 0, false, 0, 0, 0, false, [])).2.2.2.2.2.1) ((p149.getD p152.toNat (0, 0, false, 0, 0, 0, false, [])).2.2.2.2.2.2.1) ((p149.getD p152.toNat (0, 0, false, 0, 0, 0, false, [])).2.2.2.2.2.2.2) ((p150.getD p152.toNat (0, 0, false, 0, 0, 0, false, [])).1) ((p150.getD p152.toNat (0, 0, false, 0, 0, 0, false, [])).2.1) ((p150.getD p152.toNat (0, 0, false, 0, 0, 0, false, [])).2.2.1) ((p150.getD p152.toNat (0, 0, false, 0, 0, 0, false, [])).2.2.2.1) ((p150.getD p152.toNat (0, 0, false, 0, 0, 0, false, [])).2.2.2.2.1) ((p150.getD p152.toNat (0, 0, false, 0, 0, 0, false, [])).2.2.2.2.2.1) ((p150.getD p152.toNat (0, 0, false, 0, 0, 0, false, [])).2.2.2.2.2.2.1) ((p150.getD p152.toNat (0, 0, false, 0, 0, 0, false, [])).2.2.2.2.2.2.2)).bind fun y153 =>
      bif (!y153) then
        some (.inl false)
      else
        f_laws_eqPacketS.l0 n p149 p150 p151 (IntKind.wrap .i64 (p152 + (1 : Int)))
      else none
      else none
    else
      some (.inr p151)
noncomputable def f_laws_eqPacketS (x0 : List (Int × Int × Bool × Int × Int × Int × Bool × List Int)) (x1 : List (Int × Int × Bool × Int × Int × Int × Bool × List Int)) : Option (Bool) :=
  bif (!(decide ((x0.length : Int) = (x1.length : Int)))) then
    some false
  else
    (f_laws_eqPacketS.l0 N x0 x1 false 0).bind fun r154 =>
    cs r154 (fun a155 =>
      some a155) (fun b156 =>
      some true)
noncomputable def C79 : Con := ⟨[(.B, false, [(.sl R8)]), (.B, false, [(.sl R8)])], [(false, [.bool])], [(.sl R8), (.sl R8)], [.bool], fun (p : (List (Int × Int × Bool × Int × Int × Int × Bool × List Int)) × (List (Int × Int × Bool × Int × Int × Int × Bool × List Int))) => f_laws_eqPacketS p.1 p.2⟩
noncomputable def f_laws_eqPacketS.l0.c : LoopCon := ⟨1000, 6, [0, 1, 4, 5], ⟨[(0, .bor none R8 []), (1, .bor none R8 []), (4, .bool false), (5, .int .i64 0)], [], 1000⟩, [(.sl R8), (.sl R8), .bool, (.int .i64)], [⟨.ret, [4], ⟨[(4, .bool false)], [], 1000⟩, [.bool]⟩, ⟨.exit 0, [4], ⟨[(4, .bool false)], [], 1000⟩, [.bool]⟩], fun (p : (List (Int × Int × Bool × Int × Int × Int × Bool × List Int)) × (List (Int × Int × Bool × Int × Int × Int × Bool × List Int)) × Bool × Int) => f_laws_eqPacketS.l0 N p.1 p.2.1 p.2.2.1 p.2.2.2⟩
noncomputable abbrev K79 : Cons := [(96, C96)]
noncomputable abbrev L79 : List (Nat × Loops) := [(79, [(4, f_laws_eqPacketS.l0.c)])]
abbrev Q79 : List (Nat × List (Int × Nat) × Nat) := []
noncomputable abbrev X79 : Nat → Ctx := ctxOf tb K79 L79 Q79
theorem f_laws_eqPacketS.l0.ok : ∀ n p, (fun (p : (List (Int × Int × Bool × Int × Int × Int × Bool × List Int)) × (List (Int × Int × Bool × Int × Int × Int × Bool × List Int)) × Bool × Int) => f_laws_eqPacketS.l0 n p.1 p.2.1 p.2.2.1 p.2.2.2) p = iterD (roundOf fs X79 6 79 4 false f_laws_eqPacketS.l0.c) n p :=
  iter_of (l := fun n => fun (p : (List (Int × Int × Bool × Int × Int × Int × Bool × List Int)) × (List (Int × Int × Bool × Int × Int × Int × Bool × List Int)) × Bool × Int) => f_laws_eqPacketS.l0 n p.1 p.2.1 p.2.2.1 p.2.2.2) (fun _ => rfl) (fun n p => by kernel_rfl)
theorem E79 : ∀ x, funRun fs X79 6 79 C79 x = C79.fn x := fun x => by kernel_rfl
theorem B79 : ConB Try.prog 79 C79 := ConB.make FS MIX TY (cons := K79) (L := L79) (ptrs := Q79) ⟨S96, trivial⟩ trivial ⟨⟨⟨N, fun p => f_laws_eqPacketS.l0.ok N p⟩, trivial⟩, trivial⟩ rfl rfl E79
theorem S79 : ConS Try.prog 79 C79 := B79.call rfl
/-! laws.eqWorld: function 33 -/
noncomputable def f_laws_eqWorld (x0 : Int) (x1 : List (Int × (List (Int × List Int × Bool)) × (List (List Int × Int × List Bool × Bool × Int × Bool × Int × (List (Int × Bool)))) × (List (Int × (List (Int × Int × Bool × List Int)))) × List Int)) (x2 : List (Int × Int × Bool × Int × Int × Int × Bool × List Int)) (x3 : Int) (x4 : List (Int × (List (Int × List Int × Bool)) × (List (List Int × Int × List Bool × Bool × Int × Bool × Int × (List (Int × Bool)))) × (List (Int × (List (Int × Int × Bool × List Int)))) × List Int)) (x5 : List (Int × Int × Bool × Int × Int × Int × Bool × List Int)) : Option (Bool) :=
  bif (!(decide (x0 = x3))) then
    some false
  else
    (f_laws_eqNodeS x1 x4).bind fun y157 =>
    bif (!y157) then
      some false
    else
      (f_laws_eqPacketS x2 x5).bind fun y158 =>
      bif (!y158) then
        some false
      else
        some true
noncomputable def C33 : Con := ⟨[(.B, true, [(.int .i64), (.sl R7), (.sl R8)]), (.B, true, [(.int .i64), (.sl R7), (.sl R8)])], [(false, [.bool])], [(.int .i64), (.sl R7), (.sl R8), (.int .i64), (.sl R7), (.sl R8)], [.bool], fun (p : Int × (List (Int × (List (Int × List Int × Bool)) × (List (List Int × Int × List Bool × Bool × Int × Bool × Int × (List (Int × Bool)))) × (List (Int × (List (Int × Int × Bool × List Int)))) × List Int)) × (List (Int × Int × Bool × Int × Int × Int × Bool × List Int)) × Int × (List (Int × (List (Int × List Int × Bool)) × (List (List Int × Int × List Bool × Bool × Int × Bool × Int × (List (Int × Bool)))) × (List (Int × (List (Int × Int × Bool × List Int)))) × List Int)) × (List (Int × Int × Bool × Int × Int × Int × Bool × List Int))) => f_laws_eqWorld p.1 p.2.1 p.2.2.1 p.2.2.2.1 p.2.2.2.2.1 p.2.2.2.2.2⟩
noncomputable abbrev K33 : Cons := [(78, C78), (79, C79)]
noncomputable abbrev L33 : List (Nat × Loops) := []
abbrev Q33 : List (Nat × List (Int × Nat) × Nat) := []
noncomputable abbrev X33 : Nat → Ctx := ctxOf tb K33 L33 Q33
theorem E33 : ∀ x, funRun fs X33 6 33 C33 x = C33.fn x := fun x => by kernel_rfl
theorem B33 : ConB Try.prog 33 C33 := ConB.make FS MIX TY (cons := K33) (L := L33) (ptrs := Q33) ⟨S78, S79, trivial⟩ trivial trivial rfl rfl E33
theorem S33 : ConS Try.prog 33 C33 := B33.call rfl
/-! laws.markIntS: function 70 -/
noncomputable def f_laws_markIntS.l0 : Nat → Int → Int → Int → (List Int) → Option (Int × Int × List Int)
  | 0, _, _, _, _ => none
  | n + 1, p159, p160, p161, p162 =>
    bif (decide (p161 < (p162.length : Int))) then
      bif ((decide ((0 : Int) ≤ p161)) && (decide (p161 < (p162.length : Int)))) then
      (some ((p162.set p161.toNat p159) : List Int)).bind fun z163 =>
      f_laws_markIntS.l0 n (IntKind.wrap .i64 (p159 + (1 : Int))) p160 (IntKind.wrap .i64 (p161 + (1 : Int))) z163
      else none
    else
      some (p159, p160, p162)
noncomputable def f_laws_markIntS (x0 : List Int) (x1 : Int) : Option (Int × List Int) :=
  (f_laws_markIntS.l0 N x1 0 0 x0).bind fun r164 =>
  some (r164.1, r164.2.2)
noncomputable def C70 : Con := ⟨[(.I, false, [(.sl R0)]), (.B, false, [(.int .i64)])], [(false, [(.int .i64)])], [(.sl R0), (.int .i64)], [(.int .i64), (.sl R0)], fun (p : List Int × Int) => f_laws_markIntS p.1 p.2⟩
noncomputable def f_laws_markIntS.l0.c : LoopCon := ⟨1000, 6, [0, 1, 4, 5], ⟨[(0, .ref 0 [] none), (1, .int .i64 0), (4, .int .i64 0), (5, .int .i64 0)], [(0, .row R0 [])], 1000⟩, [(.int .i64), (.int .i64), (.int .i64), (.sl R0)], [⟨.exit 0, [1, 4], ⟨[(1, .int .i64 0), (4, .int .i64 0)], [(0, .row R0 [])], 1000⟩, [(.int .i64), (.int .i64), (.sl R0)]⟩], fun (p : Int × Int × Int × List Int) => f_laws_markIntS.l0 N p.1 p.2.1 p.2.2.1 p.2.2.2⟩
noncomputable abbrev K70 : Cons := []
noncomputable abbrev L70 : List (Nat × Loops) := [(70, [(2, f_laws_markIntS.l0.c)])]
abbrev Q70 : List (Nat × List (Int × Nat) × Nat) := []
noncomputable abbrev X70 : Nat → Ctx := ctxOf tb K70 L70 Q70
theorem f_laws_markIntS.l0.ok : ∀ n p, (fun (p : Int × Int × Int × List Int) => f_laws_markIntS.l0 n p.1 p.2.1 p.2.2.1 p.2.2.2) p = iterD (roundOf fs X70 6 70 2 false f_laws_markIntS.l0.c) n p :=
  iter_of (l := fun n => fun (p : Int × Int × Int × List Int) => f_laws_markIntS.l0 n p.1 p.2.1 p.2.2.1 p.2.2.2) (fun _ => rfl) (fun n p => by kernel_rfl)
theorem E70 : ∀ x, funG fs X70 6 70 C70 x = C70.fn x := fun x => by kernel_rfl
theorem B70 : ConG Try.prog 70 C70 := ConG.make FS MIX TY (cons := K70) (L := L70) (ptrs := Q70) trivial trivial ⟨⟨⟨N, fun p => f_laws_markIntS.l0.ok N p⟩, trivial⟩, trivial⟩ rfl (by kernel_rfl) E70
theorem S70 : ConS Try.prog 70 C70 := B70.call (by kernel_rfl)
/-! laws.markFrameS: function 97 -/
noncomputable def f_laws_markFrameS.l0 : Nat → Int → Int → Int → (List (Int × List Int × Bool)) → Option (Int × Int × (List (Int × List Int × Bool)))
  | 0, _, _, _, _ => none
  | n + 1, p165, p166, p167, p168 =>
    bif (decide (p167 < (p168.length : Int))) then
      bif ((decide ((0 : Int) ≤ p167)) && (decide (p167 < (p168.length : Int)))) then
      (some ((p168.set p167.toNat (p165, (p168.getD p167.toNat (0, [], false)).2.1, (p168.getD p167.toNat (0, [], false)).2.2)) : List (Int × List Int × Bool))).bind fun z169 =>
      bif ((decide ((0 : Int) ≤ p167)) && (decide (p167 < (z169.length : Int)))) then
      (f_laws_markIntS ((z169.getD p167.toNat (0, [], false)).2.1) (IntKind.wrap .i64 (p165 + (1 : Int)))).bind fun y170 =>
      (some ((z169.set p167.toNat ((z169.getD p167.toNat (0, [], false)).1, y170.2, (z169.getD p167.toNat (0, [], false)).2.2)) : List (Int × List Int × Bool))).bind fun z171 =>
      bif ((decide ((0 : Int) ≤ p167)) && (decide (p167 < (z171.length : Int)))) then
      (some ((z171.set p167.toNat ((z171.getD p167.toNat (0, [], false)).1, (z171.getD p167.toNat (0, [], false)).2.1, (decide ((Int.tmod y170.1 (3 : Int)) = (0 : Int))))) : List (Int × List Int × Bool))).bind fun z172 =>
      f_laws_markFrameS.l0 n (IntKind.wrap .i64 (y170.1 + (1 : Int))) p166 (IntKind.wrap .i64 (p167 + (1 : Int))) z172
      else none
      else none
      else none
    else
      some (p165, p166, p168)
noncomputable def f_laws_markFrameS (x0 : List (Int × List Int × Bool)) (x1 : Int) : Option (Int × (List (Int × List Int × Bool))) :=
  (f_laws_markFrameS.l0 N x1 0 0 x0).bind fun r173 =>
  some (r173.1, r173.2.2)
noncomputable def C97 : Con := ⟨[(.I, false, [(.sl R3)]), (.B, false, [(.int .i64)])], [(false, [(.int .i64)])], [(.sl R3), (.int .i64)], [(.int .i64), (.sl R3)], fun (p : (List (Int × List Int × Bool)) × Int) => f_laws_markFrameS p.1 p.2⟩
noncomputable def f_laws_markFrameS.l0.c : LoopCon := ⟨1000, 6, [0, 1, 4, 5], ⟨[(0, .ref 0 [] none), (1, .int .i64 0), (4, .int .i64 0), (5, .int .i64 0)], [(0, .row R3 [])], 1000⟩, [(.int .i64), (.int .i64), (.int .i64), (.sl R3)], [⟨.exit 0, [1, 4], ⟨[(1, .int .i64 0), (4, .int .i64 0)], [(0, .row R3 [])], 1000⟩, [(.int .i64), (.int .i64), (.sl R3)]⟩], fun (p : Int × Int × Int × (List (Int × List Int × Bool))) => f_laws_markFrameS.l0 N p.1 p.2.1 p.2.2.1 p.2.2.2⟩
noncomputable abbrev K97 : Cons := [(70, C70)]
noncomputable abbrev L97 : List (Nat × Loops) := [(97, [(2, f_laws_markFrameS.l0.c)])]
abbrev Q97 : List (Nat × List (Int × Nat) × Nat) := []
noncomputable abbrev X97 : Nat → Ctx := ctxOf tb K97 L97 Q97
theorem f_laws_markFrameS.l0.ok : ∀ n p, (fun (p : Int × Int × Int × (List (Int × List Int × Bool))) => f_laws_markFrameS.l0 n p.1 p.2.1 p.2.2.1 p.2.2.2) p = iterD (roundOf fs X97 6 97 2 false f_laws_markFrameS.l0.c) n p :=
  iter_of (l := fun n => fun (p : Int × Int × Int × (List (Int × List Int × Bool))) => f_laws_markFrameS.l0 n p.1 p.2.1 p.2.2.1 p.2.2.2) (fun _ => rfl) (fun n p => by kernel_rfl)
theorem E97 : ∀ x, funG fs X97 6 97 C97 x = C97.fn x := fun x => by kernel_rfl
theorem B97 : ConG Try.prog 97 C97 := ConG.make FS MIX TY (cons := K97) (L := L97) (ptrs := Q97) ⟨S70, trivial⟩ trivial ⟨⟨⟨N, fun p => f_laws_markFrameS.l0.ok N p⟩, trivial⟩, trivial⟩ rfl (by kernel_rfl) E97
theorem S97 : ConS Try.prog 97 C97 := B97.call (by kernel_rfl)
/-! laws.markBoolS: function 71 -/
noncomputable def f_laws_markBoolS.l0 : Nat → Int → Int → Int → (List Bool) → Option (Int × Int × List Bool)
  | 0, _, _, _, _ => none
  | n + 1, p174, p175, p176, p177 =>
    bif (decide (p176 < (p177.length : Int))) then
      bif ((decide ((0 : Int) ≤ p176)) && (decide (p176 < (p177.length : Int)))) then
      (some ((p177.set p176.toNat (decide ((Int.tmod p174 (3 : Int)) = (0 : Int)))) : List Bool)).bind fun z178 =>
      f_laws_markBoolS.l0 n (IntKind.wrap .i64 (p174 + (1 : Int))) p175 (IntKind.wrap .i64 (p176 + (1 : Int))) z178
      else none
    else
      some (p174, p175, p177)
noncomputable def f_laws_markBoolS (x0 : List Bool) (x1 : Int) : Option (Int × List Bool) :=
  (f_laws_markBoolS.l0 N x1 0 0 x0).bind fun r179 =>
  some (r179.1, r179.2.2)
noncomputable def C71 : Con := ⟨[(.I, false, [(.sl R1)]), (.B, false, [(.int .i64)])], [(false, [(.int .i64)])], [(.sl R1), (.int .i64)], [(.int .i64), (.sl R1)], fun (p : List Bool × Int) => f_laws_markBoolS p.1 p.2⟩
noncomputable def f_laws_markBoolS.l0.c : LoopCon := ⟨1000, 6, [0, 1, 4, 5], ⟨[(0, .ref 0 [] none), (1, .int .i64 0), (4, .int .i64 0), (5, .int .i64 0)], [(0, .row R1 [])], 1000⟩, [(.int .i64), (.int .i64), (.int .i64), (.sl R1)], [⟨.exit 0, [1, 4], ⟨[(1, .int .i64 0), (4, .int .i64 0)], [(0, .row R1 [])], 1000⟩, [(.int .i64), (.int .i64), (.sl R1)]⟩], fun (p : Int × Int × Int × List Bool) => f_laws_markBoolS.l0 N p.1 p.2.1 p.2.2.1 p.2.2.2⟩
noncomputable abbrev K71 : Cons := []
noncomputable abbrev L71 : List (Nat × Loops) := [(71, [(2, f_laws_markBoolS.l0.c)])]
abbrev Q71 : List (Nat × List (Int × Nat) × Nat) := []
noncomputable abbrev X71 : Nat → Ctx := ctxOf tb K71 L71 Q71
theorem f_laws_markBoolS.l0.ok : ∀ n p, (fun (p : Int × Int × Int × List Bool) => f_laws_markBoolS.l0 n p.1 p.2.1 p.2.2.1 p.2.2.2) p = iterD (roundOf fs X71 6 71 2 false f_laws_markBoolS.l0.c) n p :=
  iter_of (l := fun n => fun (p : Int × Int × Int × List Bool) => f_laws_markBoolS.l0 n p.1 p.2.1 p.2.2.1 p.2.2.2) (fun _ => rfl) (fun n p => by kernel_rfl)
theorem E71 : ∀ x, funG fs X71 6 71 C71 x = C71.fn x := fun x => by kernel_rfl
theorem B71 : ConG Try.prog 71 C71 := ConG.make FS MIX TY (cons := K71) (L := L71) (ptrs := Q71) trivial trivial ⟨⟨⟨N, fun p => f_laws_markBoolS.l0.ok N p⟩, trivial⟩, trivial⟩ rfl (by kernel_rfl) E71
theorem S71 : ConS Try.prog 71 C71 := B71.call (by kernel_rfl)
/-! laws.markWaitS: function 72 -/
noncomputable def f_laws_markWaitS.l0 : Nat → Int → Int → Int → (List (Int × Bool)) → Option (Int × Int × (List (Int × Bool)))
  | 0, _, _, _, _ => none
  | n + 1, p180, p181, p182, p183 =>
    bif (decide (p182 < (p183.length : Int))) then
      bif ((decide ((0 : Int) ≤ p182)) && (decide (p182 < (p183.length : Int)))) then
      (some ((p183.set p182.toNat (p180, (p183.getD p182.toNat (0, false)).2)) : List (Int × Bool))).bind fun z184 =>
      bif ((decide ((0 : Int) ≤ p182)) && (decide (p182 < (z184.length : Int)))) then
      (some ((z184.set p182.toNat ((z184.getD p182.toNat (0, false)).1, (decide ((Int.tmod (IntKind.wrap .i64 (p180 + (1 : Int))) (3 : Int)) = (0 : Int))))) : List (Int × Bool))).bind fun z185 =>
      f_laws_markWaitS.l0 n (IntKind.wrap .i64 ((IntKind.wrap .i64 (p180 + (1 : Int))) + (1 : Int))) p181 (IntKind.wrap .i64 (p182 + (1 : Int))) z185
      else none
      else none
    else
      some (p180, p181, p183)
noncomputable def f_laws_markWaitS (x0 : List (Int × Bool)) (x1 : Int) : Option (Int × (List (Int × Bool))) :=
  (f_laws_markWaitS.l0 N x1 0 0 x0).bind fun r186 =>
  some (r186.1, r186.2.2)
noncomputable def C72 : Con := ⟨[(.I, false, [(.sl R2)]), (.B, false, [(.int .i64)])], [(false, [(.int .i64)])], [(.sl R2), (.int .i64)], [(.int .i64), (.sl R2)], fun (p : (List (Int × Bool)) × Int) => f_laws_markWaitS p.1 p.2⟩
noncomputable def f_laws_markWaitS.l0.c : LoopCon := ⟨1000, 6, [0, 1, 4, 5], ⟨[(0, .ref 0 [] none), (1, .int .i64 0), (4, .int .i64 0), (5, .int .i64 0)], [(0, .row R2 [])], 1000⟩, [(.int .i64), (.int .i64), (.int .i64), (.sl R2)], [⟨.exit 0, [1, 4], ⟨[(1, .int .i64 0), (4, .int .i64 0)], [(0, .row R2 [])], 1000⟩, [(.int .i64), (.int .i64), (.sl R2)]⟩], fun (p : Int × Int × Int × (List (Int × Bool))) => f_laws_markWaitS.l0 N p.1 p.2.1 p.2.2.1 p.2.2.2⟩
noncomputable abbrev K72 : Cons := []
noncomputable abbrev L72 : List (Nat × Loops) := [(72, [(2, f_laws_markWaitS.l0.c)])]
abbrev Q72 : List (Nat × List (Int × Nat) × Nat) := []
noncomputable abbrev X72 : Nat → Ctx := ctxOf tb K72 L72 Q72
theorem f_laws_markWaitS.l0.ok : ∀ n p, (fun (p : Int × Int × Int × (List (Int × Bool))) => f_laws_markWaitS.l0 n p.1 p.2.1 p.2.2.1 p.2.2.2) p = iterD (roundOf fs X72 6 72 2 false f_laws_markWaitS.l0.c) n p :=
  iter_of (l := fun n => fun (p : Int × Int × Int × (List (Int × Bool))) => f_laws_markWaitS.l0 n p.1 p.2.1 p.2.2.1 p.2.2.2) (fun _ => rfl) (fun n p => by kernel_rfl)
theorem E72 : ∀ x, funG fs X72 6 72 C72 x = C72.fn x := fun x => by kernel_rfl
theorem B72 : ConG Try.prog 72 C72 := ConG.make FS MIX TY (cons := K72) (L := L72) (ptrs := Q72) trivial trivial ⟨⟨⟨N, fun p => f_laws_markWaitS.l0.ok N p⟩, trivial⟩, trivial⟩ rfl (by kernel_rfl) E72
theorem S72 : ConS Try.prog 72 C72 := B72.call (by kernel_rfl)
/-! laws.markHomeS: function 98 -/
noncomputable def f_laws_markHomeS.l0 : Nat → Int → Int → Int → (List (List Int × Int × List Bool × Bool × Int × Bool × Int × (List (Int × Bool)))) → Option (Int × Int × (List (List Int × Int × List Bool × Bool × Int × Bool × Int × (List (Int × Bool)))))
  | 0, _, _, _, _ => none
  | n + 1, p187, p188, p189, p190 =>
    bif (decide (p189 < (p190.length : Int))) then
      bif ((decide ((0 : Int) ≤ p189)) && (decide (p189 < (p190.length : Int)))) then
      (f_laws_markIntS ((p190.getD p189.toNat ([], 0, [], false, 0, false, 0, [])).1) p187).bind fun y191 =>
      (some ((p190.set p189.toNat (y191.2, (p190.getD p189.toNat ([], 0, [], false, 0, false, 0, [])).2.1, (p190.getD p189.toNat ([], 0, [], false, 0, false, 0, [])).2.2.1, (p190.getD p189.toNat ([], 0, [], false, 0, false, 0, [])).2.2.2.1, (p190.getD p189.toNat ([], 0, [], false, 0, false, 0, [])).2.2.2.2.1, (p190.getD p189.toNat ([], 0, [], false, 0, false, 0, [])).2.2.2.2.2.1, (p190.getD p189.toNat ([], 0, [], false, 0, false, 0, [])).2.2.2.2.2.2.1, (p190.getD p189.toNat ([], 0, [], false, 0, false, 0, [])).2.2.2.2.2.2.2)) : List (List Int × Int × List Bool × Bool × Int × Bool × Int × (List (Int × Bool))))).bind fun z192 =>
      bif ((decide ((0 : Int) ≤ p189)) && (decide (p189 < (z192.length : Int)))) then
      (some ((z192.set p189.toNat ((z192.getD p189.toNat ([], 0, [], false, 0, false, 0, [])).1, y191.1, (z192.getD p189.toNat ([], 0, [], false, 0, false, 0, [])).2.2.1, (z192.getD p189.toNat ([], 0, [], false, 0, false, 0, [])).2.2.2.1, (z192.getD p189.toNat ([], 0, [], false, 0, false, 0, [])).2.2.2.2.1, (z192.getD p189.toNat ([], 0, [], false, 0, false, 0, [])).2.2.2.2.2.1, (z192.getD p189.toNat ([], 0, [], false, 0, false, 0, [])).2.2.2.2.2.2.1, (z192.getD p189.toNat ([], 0, [], false, 0, false, 0, [])).2.2.2.2.2.2.2)) : List (List Int × Int × List Bool × Bool × Int × Bool × Int × (List (Int × Bool))))).bind fun z193 =>
      bif ((decide ((0 : Int) ≤ p189)) && (decide (p189 < (z193.length : Int)))) then
      (f_laws_markBoolS ((z193.getD p189.toNat ([], 0, [], false, 0, false, 0, [])).2.2.1) (IntKind.wrap .i64 (y191.1 + (1 : Int)))).bind fun y194 =>
      (some ((z193.set p189.toNat ((z193.getD p189.toNat ([], 0, [], false, 0, false, 0, [])).1, (z193.getD p189.toNat ([], 0, [], false, 0, false, 0, [])).2.1, y194.2, (z193.getD p189.toNat ([], 0, [], false, 0, false, 0, [])).2.2.2.1, (z193.getD p189.toNat ([], 0, [], false, 0, false, 0, [])).2.2.2.2.1, (z193.getD p189.toNat ([], 0, [], false, 0, false, 0, [])).2.2.2.2.2.1, (z193.getD p189.toNat ([], 0, [], false, 0, false, 0, [])).2.2.2.2.2.2.1, (z193.getD p189.toNat ([], 0, [], false, 0, false, 0, [])).2.2.2.2.2.2.2)) : List (List Int × Int × List Bool × Bool × Int × Bool × Int × (List (Int × Bool))))).bind fun z195 =>
      bif ((decide ((0 : Int) ≤ p189)) && (decide (p189 < (z195.length : Int)))) then
      (some ((z195.set p189.toNat ((z195.getD p189.toNat ([], 0, [], false, 0, false, 0, [])).1, (z195.getD p189.toNat ([], 0, [], false, 0, false, 0, [])).2.1, (z195.getD p189.toNat ([], 0, [], false, 0, false, 0, [])).2.2.1, (decide ((Int.tmod y194.1 (3 : Int)) = (0 : Int))), (z195.getD p189.toNat ([], 0, [], false, 0, false, 0, [])).2.2.2.2.1, (z195.getD p189.toNat ([], 0, [], false, 0, false, 0, [])).2.2.2.2.2.1, (z195.getD p189.toNat ([], 0, [], false, 0, false, 0, [])).2.2.2.2.2.2.1, (z195.getD p189.toNat ([], 0, [], false, 0, false, 0, [])).2.2.2.2.2.2.2)) : List (List Int × Int × List Bool × Bool × Int × Bool × Int × (List (Int × Bool))))).bind fun z196 =>
      bif ((decide ((0 : Int) ≤ p189)) && (decide (p189 < (z196.length : Int)))) then
      (some ((z196.set p189.toNat ((z196.getD p189.toNat ([], 0, [], false, 0, false, 0, [])).1, (z196.getD p189.toNat ([], 0, [], false, 0, false, 0, [])).2.1, (z196.getD p189.toNat ([], 0, [], false, 0, false, 0, [])).2.2.1, (z196.getD p189.toNat ([], 0, [], false, 0, false, 0, [])).2.2.2.1, (IntKind.wrap .i64 (y194.1 + (1 : Int))), (z196.getD p189.toNat ([], 0, [], false, 0, false, 0, [])).2.2.2.2.2.1, (z196.getD p189.toNat ([], 0, [], false, 0, false, 0, [])).2.2.2.2.2.2.1, (z196.getD p189.toNat ([], 0, [], false, 0, false, 0, [])).2.2.2.2.2.2.2)) : List (List Int × Int × List Bool × Bool × Int × Bool × Int × (List (Int × Bool))))).bind fun z197 =>
      bif ((decide ((0 : Int) ≤ p189)) && (decide (p189 < (z197.length : Int)))) then
      (some ((z197.set p189.toNat ((z197.getD p189.toNat ([], 0, [], false, 0, false, 0, [])).1, (z197.getD p189.toNat ([], 0, [], false, 0, false, 0, [])).2.1, (z197.getD p189.toNat ([], 0, [], false, 0, false, 0, [])).2.2.1, (z197.getD p189.toNat ([], 0, [], false, 0, false, 0, [])).2.2.2.1, (z197.getD p189.toNat ([], 0, [], false, 0, false, 0, [])).2.2.2.2.1, (decide ((Int.tmod (IntKind.wrap .i64 ((IntKind.wrap .i64 (y194.1 + (1 : Int))) + (1 : Int))) (3 : Int)) = (0 : Int))), (z197.getD p189.toNat ([], 0, [], false, 0, false, 0, [])).2.2.2.2.2.2.1, (z197.getD p189.toNat ([], 0, [], false, 0, false, 0, [])).2.2.2.2.2.2.2)) : List (List Int × Int × List Bool × Bool × Int × Bool × Int × (List (Int × Bool))))).bind fun z198 =>
      bif ((decide ((0 : Int) ≤ p189)) && (decide (p189 < (z198.length : Int)))) then
      (some ((z198.set p189.toNat ((z198.getD p189.toNat ([], 0, [], false, 0, false, 0, [])).1, (z198.getD p189.toNat ([], 0, [], false, 0, false, 0, [])).2.1, (z198.getD p189.toNat ([], 0, [], false, 0, false, 0, [])).2.2.1, (z198.getD p189.toNat ([], 0, [], false, 0, false, 0, [])).2.2.2.1, (z198.getD p189.toNat ([], 0, [], false, 0, false, 0, [])).2.2.2.2.1, (z198.getD p189.toNat ([], 0, [], false, 0, false, 0, [])).2.2.2.2.2.1, (IntKind.wrap .i64 ((IntKind.wrap .i64 ((IntKind.wrap .i64 (y194.1 + (1 : Int))) + (1 : Int))) + (1 : Int))), (z198.getD p189.toNat ([], 0, [], false, 0, false, 0, [])).2.2.2.2.2.2.2)) : List (List Int × Int × List Bool × Bool × Int × Bool × Int × (List (Int × Bool))))).bind fun z199 =>
      bif ((decide ((0 : Int) ≤ p189)) && (decide (p189 < (z199.length : Int)))) then
      (f_laws_markWaitS ((z199.getD p189.toNat ([], 0, [], false, 0, false, 0, [])).2.2.2.2.2.2.2) (IntKind.wrap .i64 ((IntKind.wrap .i64 ((IntKind.wrap .i64 ((IntKind.wrap .i64 (y194.1 + (1 : Int))) + (1 : Int))) + (1 : Int))) + (1 : Int)))).bind fun y200 =>
      (some ((z199.set p189.toNat ((z199.getD p189.toNat ([], 0, [], false, 0, false, 0, [])).1, (z199.getD p189.toNat ([], 0, [], false, 0, false, 0, [])).2.1, (z199.getD p189.toNat ([], 0, [], false, 0, false, 0, [])).2.2.1, (z199.getD p189.toNat ([], 0, [], false, 0, false, 0, [])).2.2.2.1, (z199.getD p189.toNat ([], 0, [], false, 0, false, 0, [])).2.2.2.2.1, (z199.getD p189.toNat ([], 0, [], false, 0, false, 0, [])).2.2.2.2.2.1, (z199.getD p189.toNat ([], 0, [], false, 0, false, 0, [])).2.2.2.2.2.2.1, y200.2)) : List (List Int × Int × List Bool × Bool × Int × Bool × Int × (List (Int × Bool))))).bind fun z201 =>
      f_laws_markHomeS.l0 n y200.1 p188 (IntKind.wrap .i64 (p189 + (1 : Int))) z201
      else none
      else none
      else none
      else none
      else none
      else none
      else none
      else none
    else
      some (p187, p188, p190)
noncomputable def f_laws_markHomeS (x0 : List (List Int × Int × List Bool × Bool × Int × Bool × Int × (List (Int × Bool)))) (x1 : Int) : Option (Int × (List (List Int × Int × List Bool × Bool × Int × Bool × Int × (List (Int × Bool))))) :=
  (f_laws_markHomeS.l0 N x1 0 0 x0).bind fun r202 =>
  some (r202.1, r202.2.2)
noncomputable def C98 : Con := ⟨[(.I, false, [(.sl R4)]), (.B, false, [(.int .i64)])], [(false, [(.int .i64)])], [(.sl R4), (.int .i64)], [(.int .i64), (.sl R4)], fun (p : (List (List Int × Int × List Bool × Bool × Int × Bool × Int × (List (Int × Bool)))) × Int) => f_laws_markHomeS p.1 p.2⟩
noncomputable def f_laws_markHomeS.l0.c : LoopCon := ⟨1000, 6, [0, 1, 4, 5], ⟨[(0, .ref 0 [] none), (1, .int .i64 0), (4, .int .i64 0), (5, .int .i64 0)], [(0, .row R4 [])], 1000⟩, [(.int .i64), (.int .i64), (.int .i64), (.sl R4)], [⟨.exit 0, [1, 4], ⟨[(1, .int .i64 0), (4, .int .i64 0)], [(0, .row R4 [])], 1000⟩, [(.int .i64), (.int .i64), (.sl R4)]⟩], fun (p : Int × Int × Int × (List (List Int × Int × List Bool × Bool × Int × Bool × Int × (List (Int × Bool))))) => f_laws_markHomeS.l0 N p.1 p.2.1 p.2.2.1 p.2.2.2⟩
noncomputable abbrev K98 : Cons := [(70, C70), (71, C71), (72, C72)]
noncomputable abbrev L98 : List (Nat × Loops) := [(98, [(2, f_laws_markHomeS.l0.c)])]
abbrev Q98 : List (Nat × List (Int × Nat) × Nat) := []
noncomputable abbrev X98 : Nat → Ctx := ctxOf tb K98 L98 Q98
theorem f_laws_markHomeS.l0.ok : ∀ n p, (fun (p : Int × Int × Int × (List (List Int × Int × List Bool × Bool × Int × Bool × Int × (List (Int × Bool))))) => f_laws_markHomeS.l0 n p.1 p.2.1 p.2.2.1 p.2.2.2) p = iterD (roundOf fs X98 6 98 2 false f_laws_markHomeS.l0.c) n p :=
  iter_of (l := fun n => fun (p : Int × Int × Int × (List (List Int × Int × List Bool × Bool × Int × Bool × Int × (List (Int × Bool))))) => f_laws_markHomeS.l0 n p.1 p.2.1 p.2.2.1 p.2.2.2) (fun _ => rfl) (fun n p => by kernel_rfl)
theorem E98 : ∀ x, funG fs X98 6 98 C98 x = C98.fn x := fun x => by kernel_rfl
theorem B98 : ConG Try.prog 98 C98 := ConG.make FS MIX TY (cons := K98) (L := L98) (ptrs := Q98) ⟨S70, S71, S72, trivial⟩ trivial ⟨⟨⟨N, fun p => f_laws_markHomeS.l0.ok N p⟩, trivial⟩, trivial⟩ rfl (by kernel_rfl) E98
theorem S98 : ConS Try.prog 98 C98 := B98.call (by kernel_rfl)
/-! laws.markMsgS: function 113 -/
noncomputable def f_laws_markMsgS.l0 : Nat → Int → Int → Int → (List (Int × Int × Bool × List Int)) → Option (Int × Int × (List (Int × Int × Bool × List Int)))
  | 0, _, _, _, _ => none
  | n + 1, p203, p204, p205, p206 =>
    bif (decide (p205 < (p206.length : Int))) then
      bif ((decide ((0 : Int) ≤ p205)) && (decide (p205 < (p206.length : Int)))) then
      (some ((p206.set p205.toNat (p203, (p206.getD p205.toNat (0, 0, false, [])).2.1, (p206.getD p205.toNat (0, 0, false, [])).2.2.1, (p206.getD p205.toNat (0, 0, false, [])).2.2.2)) : List (Int × Int × Bool × List Int))).bind fun z207 =>
      bif ((decide ((0 : Int) ≤ p205)) && (decide (p205 < (z207.length : Int)))) then
      (some ((z207.set p205.toNat ((z207.getD p205.toNat (0, 0, false, [])).1, (IntKind.wrap .i64 (p203 + (1 : Int))), (z207.getD p205.toNat (0, 0, false, [])).2.2.1, (z207.getD p205.toNat (0, 0, false, [])).2.2.2)) : List (Int × Int × Bool × List Int))).bind fun z208 =>
      bif ((decide ((0 : Int) ≤ p205)) && (decide (p205 < (z208.length : Int)))) then
      (some ((z208.set p205.toNat ((z208.getD p205.toNat (0, 0, false, [])).1, (z208.getD p205.toNat (0, 0, false, [])).2.1, (decide ((Int.tmod (IntKind.wrap .i64 ((IntKind.wrap .i64 (p203 + (1 : Int))) + (1 : Int))) (3 : Int)) = (0 : Int))), (z208.getD p205.toNat (0, 0, false, [])).2.2.2)) : List (Int × Int × Bool × List Int))).bind fun z209 =>
      bif ((decide ((0 : Int) ≤ p205)) && (decide (p205 < (z209.length : Int)))) then
      (f_laws_markIntS ((z209.getD p205.toNat (0, 0, false, [])).2.2.2) (IntKind.wrap .i64 ((IntKind.wrap .i64 ((IntKind.wrap .i64 (p203 + (1 : Int))) + (1 : Int))) + (1 : Int)))).bind fun y210 =>
      (some ((z209.set p205.toNat ((z209.getD p205.toNat (0, 0, false, [])).1, (z209.getD p205.toNat (0, 0, false, [])).2.1, (z209.getD p205.toNat (0, 0, false, [])).2.2.1, y210.2)) : List (Int × Int × Bool × List Int))).bind fun z211 =>
      f_laws_markMsgS.l0 n y210.1 p204 (IntKind.wrap .i64 (p205 + (1 : Int))) z211
      else none
      else none
      else none
      else none
    else
      some (p203, p204, p206)
noncomputable def f_laws_markMsgS (x0 : List (Int × Int × Bool × List Int)) (x1 : Int) : Option (Int × (List (Int × Int × Bool × List Int))) :=
  (f_laws_markMsgS.l0 N x1 0 0 x0).bind fun r212 =>
  some (r212.1, r212.2.2)
noncomputable def C113 : Con := ⟨[(.I, false, [(.sl R5)]), (.B, false, [(.int .i64)])], [(false, [(.int .i64)])], [(.sl R5), (.int .i64)], [(.int .i64), (.sl R5)], fun (p : (List (Int × Int × Bool × List Int)) × Int) => f_laws_markMsgS p.1 p.2⟩
noncomputable def f_laws_markMsgS.l0.c : LoopCon := ⟨1000, 6, [0, 1, 4, 5], ⟨[(0, .ref 0 [] none), (1, .int .i64 0), (4, .int .i64 0), (5, .int .i64 0)], [(0, .row R5 [])], 1000⟩, [(.int .i64), (.int .i64), (.int .i64), (.sl R5)], [⟨.exit 0, [1, 4], ⟨[(1, .int .i64 0), (4, .int .i64 0)], [(0, .row R5 [])], 1000⟩, [(.int .i64), (.int .i64), (.sl R5)]⟩], fun (p : Int × Int × Int × (List (Int × Int × Bool × List Int))) => f_laws_markMsgS.l0 N p.1 p.2.1 p.2.2.1 p.2.2.2⟩
noncomputable abbrev K113 : Cons := [(70, C70)]
noncomputable abbrev L113 : List (Nat × Loops) := [(113, [(2, f_laws_markMsgS.l0.c)])]
abbrev Q113 : List (Nat × List (Int × Nat) × Nat) := []
noncomputable abbrev X113 : Nat → Ctx := ctxOf tb K113 L113 Q113
theorem f_laws_markMsgS.l0.ok : ∀ n p, (fun (p : Int × Int × Int × (List (Int × Int × Bool × List Int))) => f_laws_markMsgS.l0 n p.1 p.2.1 p.2.2.1 p.2.2.2) p = iterD (roundOf fs X113 6 113 2 false f_laws_markMsgS.l0.c) n p :=
  iter_of (l := fun n => fun (p : Int × Int × Int × (List (Int × Int × Bool × List Int))) => f_laws_markMsgS.l0 n p.1 p.2.1 p.2.2.1 p.2.2.2) (fun _ => rfl) (fun n p => by kernel_rfl)
theorem E113 : ∀ x, funG fs X113 6 113 C113 x = C113.fn x := fun x => by kernel_rfl
theorem B113 : ConG Try.prog 113 C113 := ConG.make FS MIX TY (cons := K113) (L := L113) (ptrs := Q113) ⟨S70, trivial⟩ trivial ⟨⟨⟨N, fun p => f_laws_markMsgS.l0.ok N p⟩, trivial⟩, trivial⟩ rfl (by kernel_rfl) E113
theorem S113 : ConS Try.prog 113 C113 := B113.call (by kernel_rfl)
/-! laws.markSenderS: function 99 -/
noncomputable def f_laws_markSenderS.l0 : Nat → Int → Int → Int → (List (Int × (List (Int × Int × Bool × List Int)))) → Option (Int × Int × (List (Int × (List (Int × Int × Bool × List Int)))))
  | 0, _, _, _, _ => none
  | n + 1, p213, p214, p215, p216 =>
    bif (decide (p215 < (p216.length : Int))) then
      bif ((decide ((0 : Int) ≤ p215)) && (decide (p215 < (p216.length : Int)))) then
      (some ((p216.set p215.toNat (p213, (p216.getD p215.toNat (0, [])).2)) : List (Int × (List (Int × Int × Bool × List Int))))).bind fun z217 =>
      bif ((decide ((0 : Int) ≤ p215)) && (decide (p215 < (z217.length : Int)))) then
      (f_laws_markMsgS ((z217.getD p215.toNat (0, [])).2) (IntKind.wrap .i64 (p213 + (1 : Int)))).bind fun y218 =>
      (some ((z217.set p215.toNat ((z217.getD p215.toNat (0, [])).1, y218.2)) : List (Int × (List (Int × Int × Bool × List Int))))).bind fun z219 =>
      f_laws_markSenderS.l0 n y218.1 p214 (IntKind.wrap .i64 (p215 + (1 : Int))) z219
      else none
      else none
    else
      some (p213, p214, p216)
noncomputable def f_laws_markSenderS (x0 : List (Int × (List (Int × Int × Bool × List Int)))) (x1 : Int) : Option (Int × (List (Int × (List (Int × Int × Bool × List Int))))) :=
  (f_laws_markSenderS.l0 N x1 0 0 x0).bind fun r220 =>
  some (r220.1, r220.2.2)
noncomputable def C99 : Con := ⟨[(.I, false, [(.sl R6)]), (.B, false, [(.int .i64)])], [(false, [(.int .i64)])], [(.sl R6), (.int .i64)], [(.int .i64), (.sl R6)], fun (p : (List (Int × (List (Int × Int × Bool × List Int)))) × Int) => f_laws_markSenderS p.1 p.2⟩
noncomputable def f_laws_markSenderS.l0.c : LoopCon := ⟨1000, 6, [0, 1, 4, 5], ⟨[(0, .ref 0 [] none), (1, .int .i64 0), (4, .int .i64 0), (5, .int .i64 0)], [(0, .row R6 [])], 1000⟩, [(.int .i64), (.int .i64), (.int .i64), (.sl R6)], [⟨.exit 0, [1, 4], ⟨[(1, .int .i64 0), (4, .int .i64 0)], [(0, .row R6 [])], 1000⟩, [(.int .i64), (.int .i64), (.sl R6)]⟩], fun (p : Int × Int × Int × (List (Int × (List (Int × Int × Bool × List Int))))) => f_laws_markSenderS.l0 N p.1 p.2.1 p.2.2.1 p.2.2.2⟩
noncomputable abbrev K99 : Cons := [(113, C113)]
noncomputable abbrev L99 : List (Nat × Loops) := [(99, [(2, f_laws_markSenderS.l0.c)])]
abbrev Q99 : List (Nat × List (Int × Nat) × Nat) := []
noncomputable abbrev X99 : Nat → Ctx := ctxOf tb K99 L99 Q99
theorem f_laws_markSenderS.l0.ok : ∀ n p, (fun (p : Int × Int × Int × (List (Int × (List (Int × Int × Bool × List Int))))) => f_laws_markSenderS.l0 n p.1 p.2.1 p.2.2.1 p.2.2.2) p = iterD (roundOf fs X99 6 99 2 false f_laws_markSenderS.l0.c) n p :=
  iter_of (l := fun n => fun (p : Int × Int × Int × (List (Int × (List (Int × Int × Bool × List Int))))) => f_laws_markSenderS.l0 n p.1 p.2.1 p.2.2.1 p.2.2.2) (fun _ => rfl) (fun n p => by kernel_rfl)
theorem E99 : ∀ x, funG fs X99 6 99 C99 x = C99.fn x := fun x => by kernel_rfl
theorem B99 : ConG Try.prog 99 C99 := ConG.make FS MIX TY (cons := K99) (L := L99) (ptrs := Q99) ⟨S113, trivial⟩ trivial ⟨⟨⟨N, fun p => f_laws_markSenderS.l0.ok N p⟩, trivial⟩, trivial⟩ rfl (by kernel_rfl) E99
theorem S99 : ConS Try.prog 99 C99 := B99.call (by kernel_rfl)
/-! laws.markReceiverS: function 100 -/
noncomputable def f_laws_markReceiverS.l0 : Nat → Int → Int → Int → (List Int) → Option (Int × Int × List Int)
  | 0, _, _, _, _ => none
  | n + 1, p221, p222, p223, p224 =>
    bif (decide (p223 < (p224.length : Int))) then
      bif ((decide ((0 : Int) ≤ p223)) && (decide (p223 < (p224.length : Int)))) then
      (some ((p224.set p223.toNat p221) : List Int)).bind fun z225 =>
      f_laws_markReceiverS.l0 n (IntKind.wrap .i64 (p221 + (1 : Int))) p222 (IntKind.wrap .i64 (p223 + (1 : Int))) z225
      else none
    else
      some (p221, p222, p224)
noncomputable def f_laws_markReceiverS (x0 : List Int) (x1 : Int) : Option (Int × List Int) :=
  (f_laws_markReceiverS.l0 N x1 0 0 x0).bind fun r226 =>
  some (r226.1, r226.2.2)
noncomputable def C100 : Con := ⟨[(.I, false, [(.sl R0)]), (.B, false, [(.int .i64)])], [(false, [(.int .i64)])], [(.sl R0), (.int .i64)], [(.int .i64), (.sl R0)], fun (p : List Int × Int) => f_laws_markReceiverS p.1 p.2⟩
noncomputable def f_laws_markReceiverS.l0.c : LoopCon := ⟨1000, 6, [0, 1, 4, 5], ⟨[(0, .ref 0 [] none), (1, .int .i64 0), (4, .int .i64 0), (5, .int .i64 0)], [(0, .row R0 [])], 1000⟩, [(.int .i64), (.int .i64), (.int .i64), (.sl R0)], [⟨.exit 0, [1, 4], ⟨[(1, .int .i64 0), (4, .int .i64 0)], [(0, .row R0 [])], 1000⟩, [(.int .i64), (.int .i64), (.sl R0)]⟩], fun (p : Int × Int × Int × List Int) => f_laws_markReceiverS.l0 N p.1 p.2.1 p.2.2.1 p.2.2.2⟩
noncomputable abbrev K100 : Cons := []
noncomputable abbrev L100 : List (Nat × Loops) := [(100, [(2, f_laws_markReceiverS.l0.c)])]
abbrev Q100 : List (Nat × List (Int × Nat) × Nat) := []
noncomputable abbrev X100 : Nat → Ctx := ctxOf tb K100 L100 Q100
theorem f_laws_markReceiverS.l0.ok : ∀ n p, (fun (p : Int × Int × Int × List Int) => f_laws_markReceiverS.l0 n p.1 p.2.1 p.2.2.1 p.2.2.2) p = iterD (roundOf fs X100 6 100 2 false f_laws_markReceiverS.l0.c) n p :=
  iter_of (l := fun n => fun (p : Int × Int × Int × List Int) => f_laws_markReceiverS.l0 n p.1 p.2.1 p.2.2.1 p.2.2.2) (fun _ => rfl) (fun n p => by kernel_rfl)
theorem E100 : ∀ x, funG fs X100 6 100 C100 x = C100.fn x := fun x => by kernel_rfl
theorem B100 : ConG Try.prog 100 C100 := ConG.make FS MIX TY (cons := K100) (L := L100) (ptrs := Q100) trivial trivial ⟨⟨⟨N, fun p => f_laws_markReceiverS.l0.ok N p⟩, trivial⟩, trivial⟩ rfl (by kernel_rfl) E100
theorem S100 : ConS Try.prog 100 C100 := B100.call (by kernel_rfl)
/-! laws.markNodeS: function 80 -/
noncomputable def f_laws_markNodeS.l0 : Nat → Int → Int → Int → (List (Int × (List (Int × List Int × Bool)) × (List (List Int × Int × List Bool × Bool × Int × Bool × Int × (List (Int × Bool)))) × (List (Int × (List (Int × Int × Bool × List Int)))) × List Int)) → Option (Int × Int × (List (Int × (List (Int × List Int × Bool)) × (List (List Int × Int × List Bool × Bool × Int × Bool × Int × (List (Int × Bool)))) × (List (Int × (List (Int × Int × Bool × List Int)))) × List Int)))
  | 0, _, _, _, _ => none
  | n + 1, p227, p228, p229, p230 =>
    bif (decide (p229 < (p230.length : Int))) then
      bif ((decide ((0 : Int) ≤ p229)) && (decide (p229 < (p230.length : Int)))) then
      (some ((p230.set p229.toNat (p227, (p230.getD p229.toNat (0, [], [], [], [])).2.1, (p230.getD p229.toNat (0, [], [], [], [])).2.2.1, (p230.getD p229.toNat (0, [], [], [], [])).2.2.2.1, (p230.getD p229.toNat (0, [], [], [], [])).2.2.2.2)) : List (Int × (List (Int × List Int × Bool)) × (List (List Int × Int × List Bool × Bool × Int × Bool × Int × (List (Int × Bool)))) × (List (Int × (List (Int × Int × Bool × List Int)))) × List Int))).bind fun z231 =>
      bif ((decide ((0 : Int) ≤ p229)) && (decide (p229 < (z231.length : Int)))) then
      (f_laws_markFrameS ((z231.getD p229.toNat (0, [], [], [], [])).2.1) (IntKind.wrap .i64 (p227 + (1 : Int)))).bind fun y232 =>
      (some ((z231.set p229.toNat ((z231.getD p229.toNat (0, [], [], [], [])).1, y232.2, (z231.getD p229.toNat (0, [], [], [], [])).2.2.1, (z231.getD p229.toNat (0, [], [], [], [])).2.2.2.1, (z231.getD p229.toNat (0, [], [], [], [])).2.2.2.2)) : List (Int × (List (Int × List Int × Bool)) × (List (List Int × Int × List Bool × Bool × Int × Bool × Int × (List (Int × Bool)))) × (List (Int × (List (Int × Int × Bool × List Int)))) × List Int))).bind fun z233 =>
      bif ((decide ((0 : Int) ≤ p229)) && (decide (p229 < (z233.length : Int)))) then
      (f_laws_markHomeS ((z233.getD p229.toNat (0, [], [], [], [])).2.2.1) y232.1).bind fun y234 =>
      (some ((z233.set p229.toNat ((z233.getD p229.toNat (0, [], [], [], [])).1, (z233.getD p229.toNat (0, [], [], [], [])).2.1, y234.2, (z233.getD p229.toNat (0, [], [], [], [])).2.2.2.1, (z233.getD p229.toNat (0, [], [], [], [])).2.2.2.2)) : List (Int × (List (Int × List Int × Bool)) × (List (List Int × Int × List Bool × Bool × Int × Bool × Int × (List (Int × Bool)))) × (List (Int × (List (Int × Int × Bool × List Int)))) × List Int))).bind fun z235 =>
      bif ((decide ((0 : Int) ≤ p229)) && (decide (p229 < (z235.length : Int)))) then
      (f_laws_markSenderS ((z235.getD p229.toNat (0, [], [], [], [])).2.2.2.1) y234.1).bind fun y236 =>
      (some ((z235.set p229.toNat ((z235.getD p229.toNat (0, [], [], [], [])).1, (z235.getD p229.toNat (0, [], [], [], [])).2.1, (z235.getD p229.toNat (0, [], [], [], [])).2.2.1, y236.2, (z235.getD p229.toNat (0, [], [], [], [])).2.2.2.2)) : List (Int × (List (Int × List Int × Bool)) × (List (List Int × Int × List Bool × Bool × Int × Bool × Int × (List (Int × Bool)))) × (List (Int × (List (Int × Int × Bool × List Int)))) × List Int))).bind fun z237 =>
      bif ((decide ((0 : Int) ≤ p229)) && (decide (p229 < (z237.length : Int)))) then
      (f_laws_markReceiverS ((z237.getD p229.toNat (0, [], [], [], [])).2.2.2.2) y236.1).bind fun y238 =>
      (some ((z237.set p229.toNat ((z237.getD p229.toNat (0, [], [], [], [])).1, (z237.getD p229.toNat (0, [], [], [], [])).2.1, (z237.getD p229.toNat (0, [], [], [], [])).2.2.1, (z237.getD p229.toNat (0, [], [], [], [])).2.2.2.1, y238.2)) : List (Int × (List (Int × List Int × Bool)) × (List (List Int × Int × List Bool × Bool × Int × Bool × Int × (List (Int × Bool)))) × (List (Int × (List (Int × Int × Bool × List Int)))) × List Int))).bind fun z239 =>
      f_laws_markNodeS.l0 n y238.1 p228 (IntKind.wrap .i64 (p229 + (1 : Int))) z239
      else none
      else none
      else none
      else none
      else none
    else
      some (p227, p228, p230)
noncomputable def f_laws_markNodeS (x0 : List (Int × (List (Int × List Int × Bool)) × (List (List Int × Int × List Bool × Bool × Int × Bool × Int × (List (Int × Bool)))) × (List (Int × (List (Int × Int × Bool × List Int)))) × List Int)) (x1 : Int) : Option (Int × (List (Int × (List (Int × List Int × Bool)) × (List (List Int × Int × List Bool × Bool × Int × Bool × Int × (List (Int × Bool)))) × (List (Int × (List (Int × Int × Bool × List Int)))) × List Int))) :=
  (f_laws_markNodeS.l0 N x1 0 0 x0).bind fun r240 =>
  some (r240.1, r240.2.2)
noncomputable def C80 : Con := ⟨[(.I, false, [(.sl R7)]), (.B, false, [(.int .i64)])], [(false, [(.int .i64)])], [(.sl R7), (.int .i64)], [(.int .i64), (.sl R7)], fun (p : (List (Int × (List (Int × List Int × Bool)) × (List (List Int × Int × List Bool × Bool × Int × Bool × Int × (List (Int × Bool)))) × (List (Int × (List (Int × Int × Bool × List Int)))) × List Int)) × Int) => f_laws_markNodeS p.1 p.2⟩
noncomputable def f_laws_markNodeS.l0.c : LoopCon := ⟨1000, 6, [0, 1, 4, 5], ⟨[(0, .ref 0 [] none), (1, .int .i64 0), (4, .int .i64 0), (5, .int .i64 0)], [(0, .row R7 [])], 1000⟩, [(.int .i64), (.int .i64), (.int .i64), (.sl R7)], [⟨.exit 0, [1, 4], ⟨[(1, .int .i64 0), (4, .int .i64 0)], [(0, .row R7 [])], 1000⟩, [(.int .i64), (.int .i64), (.sl R7)]⟩], fun (p : Int × Int × Int × (List (Int × (List (Int × List Int × Bool)) × (List (List Int × Int × List Bool × Bool × Int × Bool × Int × (List (Int × Bool)))) × (List (Int × (List (Int × Int × Bool × List Int)))) × List Int))) => f_laws_markNodeS.l0 N p.1 p.2.1 p.2.2.1 p.2.2.2⟩
noncomputable abbrev K80 : Cons := [(97, C97), (98, C98), (99, C99), (100, C100)]
noncomputable abbrev L80 : List (Nat × Loops) := [(80, [(2, f_laws_markNodeS.l0.c)])]
abbrev Q80 : List (Nat × List (Int × Nat) × Nat) := []
noncomputable abbrev X80 : Nat → Ctx := ctxOf tb K80 L80 Q80
theorem f_laws_markNodeS.l0.ok : ∀ n p, (fun (p : Int × Int × Int × (List (Int × (List (Int × List Int × Bool)) × (List (List Int × Int × List Bool × Bool × Int × Bool × Int × (List (Int × Bool)))) × (List (Int × (List (Int × Int × Bool × List Int)))) × List Int))) => f_laws_markNodeS.l0 n p.1 p.2.1 p.2.2.1 p.2.2.2) p = iterD (roundOf fs X80 6 80 2 false f_laws_markNodeS.l0.c) n p :=
  iter_of (l := fun n => fun (p : Int × Int × Int × (List (Int × (List (Int × List Int × Bool)) × (List (List Int × Int × List Bool × Bool × Int × Bool × Int × (List (Int × Bool)))) × (List (Int × (List (Int × Int × Bool × List Int)))) × List Int))) => f_laws_markNodeS.l0 n p.1 p.2.1 p.2.2.1 p.2.2.2) (fun _ => rfl) (fun n p => by kernel_rfl)
theorem E80 : ∀ x, funG fs X80 6 80 C80 x = C80.fn x := fun x => by kernel_rfl
theorem B80 : ConG Try.prog 80 C80 := ConG.make FS MIX TY (cons := K80) (L := L80) (ptrs := Q80) ⟨S97, S98, S99, S100, trivial⟩ trivial ⟨⟨⟨N, fun p => f_laws_markNodeS.l0.ok N p⟩, trivial⟩, trivial⟩ rfl (by kernel_rfl) E80
theorem S80 : ConS Try.prog 80 C80 := B80.call (by kernel_rfl)
/-! laws.markPacketS: function 81 -/
noncomputable def f_laws_markPacketS.l0 : Nat → Int → Int → Int → (List (Int × Int × Bool × Int × Int × Int × Bool × List Int)) → Option (Int × Int × (List (Int × Int × Bool × Int × Int × Int × Bool × List Int)))
  | 0, _, _, _, _ => none
  | n + 1, p241, p242, p243, p244 =>
    bif (decide (p243 < (p244.length : Int))) then
      bif ((decide ((0 : Int) ≤ p243)) && (decide (p243 < (p244.length : Int)))) then
      (some ((p244.set p243.toNat (p241, (p244.getD p243.toNat (0, 0, false, 0, 0, 0, false, [])).2.1, (p244.getD p243.toNat (0, 0, false, 0, 0, 0, false, [])).2.2.1, (p244.getD p243.toNat (0, 0, false, 0, 0, 0, false, [])).2.2.2.1, (p244.getD p243.toNat (0, 0, false, 0, 0, 0, false, [])).2.2.2.2.1, (p244.getD p243.toNat (0, 0, false, 0, 0, 0, false, [])).2.2.2.2.2.1, (p244.getD p243.toNat (0, 0, false, 0, 0, 0, false, [])).2.2.2.2.2.2.1, (p244.getD p243.toNat (0, 0, false, 0, 0, 0, false, [])).2.2.2.2.2.2.2)) : List (Int × Int × Bool × Int × Int × Int × Bool × List Int))).bind fun z245 =>
      bif ((decide ((0 : Int) ≤ p243)) && (decide (p243 < (z245.length : Int)))) then
      (some ((z245.set p243.toNat ((z245.getD p243.toNat (0, 0, false, 0, 0, 0, false, [])).1, (IntKind.wrap .i64 (p241 + (1 : Int))), (z245.getD p243.toNat (0, 0, false, 0, 0, 0, false, [])).2.2.1, (z245.getD p243.toNat (0, 0, false, 0, 0, 0, false, [])).2.2.2.1, (z245.getD p243.toNat (0, 0, false, 0, 0, 0, false, [])).2.2.2.2.1, (z245.getD p243.toNat (0, 0, false, 0, 0, 0, false, [])).2.2.2.2.2.1, (z245.getD p243.toNat (0, 0, false, 0, 0, 0, false, [])).2.2.2.2.2.2.1, (z245.getD p243.toNat (0, 0, false, 0, 0, 0, false, [])).2.2.2.2.2.2.2)) : List (Int × Int × Bool × Int × Int × Int × Bool × List Int))).bind fun z246 =>
      bif ((decide ((0 : Int) ≤ p243)) && (decide (p243 < (z246.length : Int)))) then
      (some ((z246.set p243.toNat ((z246.getD p243.toNat (0, 0, false, 0, 0, 0, false, [])).1, (z246.getD p243.toNat (0, 0, false, 0, 0, 0, false, [])).2.1, (decide ((Int.tmod (IntKind.wrap .i64 ((IntKind.wrap .i64 (p241 + (1 : Int))) + (1 : Int))) (3 : Int)) = (0 : Int))), (z246.getD p243.toNat (0, 0, false, 0, 0, 0, false, [])).2.2.2.1, (z246.getD p243.toNat (0, 0, false, 0, 0, 0, false, [])).2.2.2.2.1, (z246.getD p243.toNat (0, 0, false, 0, 0, 0, false, [])).2.2.2.2.2.1, (z246.getD p243.toNat (0, 0, false, 0, 0, 0, false, [])).2.2.2.2.2.2.1, (z246.getD p243.toNat (0, 0, false, 0, 0, 0, false, [])).2.2.2.2.2.2.2)) : List (Int × Int × Bool × Int × Int × Int × Bool × List Int))).bind fun z247 =>
      bif ((decide ((0 : Int) ≤ p243)) && (decide (p243 < (z247.length : Int)))) then
      (some ((z247.set p243.toNat ((z247.getD p243.toNat (0, 0, false, 0, 0, 0, false, [])).1, (z247.getD p243.toNat (0, 0, false, 0, 0, 0, false, [])).2.1, (z247.getD p243.toNat (0, 0, false, 0, 0, 0, false, [])).2.2.1, (IntKind.wrap .i64 ((IntKind.wrap .i64 ((IntKind.wrap .i64 (p241 + (1 : Int))) + (1 : Int))) + (1 : Int))), (z247.getD p243.toNat (0, 0, false, 0, 0, 0, false, [])).2.2.2.2.1, (z247.getD p243.toNat (0, 0, false, 0, 0, 0, false, [])).2.2.2.2.2.1, (z247.getD p243.toNat (0, 0, false, 0, 0, 0, false, [])).2.2.2.2.2.2.1, (z247.getD p243.toNat (0, 0, false, 0, 0, 0, false, [])).2.2.2.2.2.2.2)) : List (Int × Int × Bool × Int × Int × Int × Bool × List Int))).bind fun z248 =>
      bif ((decide ((0 : Int) ≤ p243)) && (decide (p243 < (z248.length : Int)))) then
      (some ((z248.set p243.toNat ((z248.getD p243.toNat (0, 0, false, 0, 0, 0, false, [])).1, (z248.getD p243.toNat (0, 0, false, 0, 0, 0, false, [])).2.1, (z248.getD p243.toNat (0, 0, false, 0, 0, 0, false, [])).2.2.1, (z248.getD p243.toNat (0, 0, false, 0, 0, 0, false, [])).2.2.2.1, (IntKind.wrap .i64 ((IntKind.wrap .i64 ((IntKind.wrap .i64 ((IntKind.wrap .i64 (p241 + (1 : Int))) + (1 : Int))) + (1 : Int))) + (1 : Int))), (z248.getD p243.toNat (0, 0, false, 0, 0, 0, false, [])).2.2.2.2.2.1, (z248.getD p243.toNat (0, 0, false, 0, 0, 0, false, [])).2.2.2.2.2.2.1, (z248.getD p243.toNat (0, 0, false, 0, 0, 0, false, [])).2.2.2.2.2.2.2)) : List (Int × Int × Bool × Int × Int × Int × Bool × List Int))).bind fun z249 =>
      bif ((decide ((0 : Int) ≤ p243)) && (decide (p243 < (z249.length : Int)))) then
      (some ((z249.set p243.toNat ((z249.getD p243.toNat (0, 0, false, 0, 0, 0, false, [])).1, (z249.getD p243.toNat (0, 0, false, 0, 0, 0, false, [])).2.1, (z249.getD p243.toNat (0, 0, false, 0, 0, 0, false, [])).2.2.1, (z249.getD p243.toNat (0, 0, false, 0, 0, 0, false, [])).2.2.2.1, (z249.getD p243.toNat (0, 0, false, 0, 0, 0, false, [])).2.2.2.2.1, (IntKind.wrap .i64 ((IntKind.wrap .i64 ((IntKind.wrap .i64 ((IntKind.wrap .i64 ((IntKind.wrap .i64 (p241 + (1 : Int))) + (1 : Int))) + (1 : Int))) + (1 : Int))) + (1 : Int))), (z249.getD p243.toNat (0, 0, false, 0, 0, 0, false, [])).2.2.2.2.2.2.1, (z249.getD p243.toNat (0, 0, false, 0, 0, 0, false, [])).2.2.2.2.2.2.2)) : List (Int × Int × Bool × Int × Int × Int × Bool × List Int))).bind fun z250 =>
      bif ((decide ((0 : Int) ≤ p243)) && (decide (p243 < (z250.length : Int)))) then
      (some ((z250.set p243.toNat ((z250.getD p243.toNat (0, 0, false, 0, 0, 0, false, [])).1, (z250.getD p243.toNat (0, 0, false, 0, 0, 0, false, [])).2.1, (z250.getD p243.toNat (0, 0, false, 0, 0, 0, false, [])).2.2.1, (z250.getD p243.toNat (0, 0, false, 0, 0, 0, false, [])).2.2.2.1, (z250.getD p243.toNat (0, 0, false, 0, 0, 0, false, [])).2.2.2.2.1, (z250.getD p243.toNat (0, 0, false, 0, 0, 0, false, [])).2.2.2.2.2.1, (decide ((Int.tmod (IntKind.wrap .i64 ((IntKind.wrap .i64 ((IntKind.wrap .i64 ((IntKind.wrap .i64 ((IntKind.wrap .i64 ((IntKind.wrap .i64 (p241 + (1 : Int))) + (1 : Int))) + (1 : Int))) + (1 : Int))) + (1 : Int))) + (1 : Int))) (3 : Int)) = (0 : Int))), (z250.getD p243.toNat (0, 0, false, 0, 0, 0, false, [])).2.2.2.2.2.2.2)) : List (Int × Int × Bool × Int × Int × Int × Bool × List Int))).bind fun z251 =>
      bif ((decide ((0 : Int) ≤ p243)) && (decide (p243 < (z251.length : Int)))) then
      (f_laws_markIntS ((z251.getD p243.toNat (0, 0, false, 0, 0, 0, false, [])).2.2.2.2.2.2.2) (IntKind.wrap .i64 ((IntKind.wrap .i64 ((IntKind.wrap .i64 ((IntKind.wrap .i64 ((IntKind.wrap .i64 ((IntKind.wrap .i64 ((IntKind.wrap .i64 (p241 + (1 : Int))) + (1 : Int))) + (1 : Int))) + (1 : Int))) + (1 : Int))) + (1 : Int))) + (1 : Int)))).bind fun y252 =>
      (some ((z251.set p243.toNat ((z251.getD p243.toNat (0, 0, false, 0, 0, 0, false, [])).1, (z251.getD p243.toNat (0, 0, false, 0, 0, 0, false, [])).2.1, (z251.getD p243.toNat (0, 0, false, 0, 0, 0, false, [])).2.2.1, (z251.getD p243.toNat (0, 0, false, 0, 0, 0, false, [])).2.2.2.1, (z251.getD p243.toNat (0, 0, false, 0, 0, 0, false, [])).2.2.2.2.1, (z251.getD p243.toNat (0, 0, false, 0, 0, 0, false, [])).2.2.2.2.2.1, (z251.getD p243.toNat (0, 0, false, 0, 0, 0, false, [])).2.2.2.2.2.2.1, y252.2)) : List (Int × Int × Bool × Int × Int × Int × Bool × List Int))).bind fun z253 =>
      f_laws_markPacketS.l0 n y252.1 p242 (IntKind.wrap .i64 (p243 + (1 : Int))) z253
      else none
      else none
      else none
      else none
      else none
      else none
      else none
      else none
    else
      some (p241, p242, p244)
noncomputable def f_laws_markPacketS (x0 : List (Int × Int × Bool × Int × Int × Int × Bool × List Int)) (x1 : Int) : Option (Int × (List (Int × Int × Bool × Int × Int × Int × Bool × List Int))) :=
  (f_laws_markPacketS.l0 N x1 0 0 x0).bind fun r254 =>
  some (r254.1, r254.2.2)
noncomputable def C81 : Con := ⟨[(.I, false, [(.sl R8)]), (.B, false, [(.int .i64)])], [(false, [(.int .i64)])], [(.sl R8), (.int .i64)], [(.int .i64), (.sl R8)], fun (p : (List (Int × Int × Bool × Int × Int × Int × Bool × List Int)) × Int) => f_laws_markPacketS p.1 p.2⟩
noncomputable def f_laws_markPacketS.l0.c : LoopCon := ⟨1000, 6, [0, 1, 4, 5], ⟨[(0, .ref 0 [] none), (1, .int .i64 0), (4, .int .i64 0), (5, .int .i64 0)], [(0, .row R8 [])], 1000⟩, [(.int .i64), (.int .i64), (.int .i64), (.sl R8)], [⟨.exit 0, [1, 4], ⟨[(1, .int .i64 0), (4, .int .i64 0)], [(0, .row R8 [])], 1000⟩, [(.int .i64), (.int .i64), (.sl R8)]⟩], fun (p : Int × Int × Int × (List (Int × Int × Bool × Int × Int × Int × Bool × List Int))) => f_laws_markPacketS.l0 N p.1 p.2.1 p.2.2.1 p.2.2.2⟩
noncomputable abbrev K81 : Cons := [(70, C70)]
noncomputable abbrev L81 : List (Nat × Loops) := [(81, [(2, f_laws_markPacketS.l0.c)])]
abbrev Q81 : List (Nat × List (Int × Nat) × Nat) := []
noncomputable abbrev X81 : Nat → Ctx := ctxOf tb K81 L81 Q81
theorem f_laws_markPacketS.l0.ok : ∀ n p, (fun (p : Int × Int × Int × (List (Int × Int × Bool × Int × Int × Int × Bool × List Int))) => f_laws_markPacketS.l0 n p.1 p.2.1 p.2.2.1 p.2.2.2) p = iterD (roundOf fs X81 6 81 2 false f_laws_markPacketS.l0.c) n p :=
  iter_of (l := fun n => fun (p : Int × Int × Int × (List (Int × Int × Bool × Int × Int × Int × Bool × List Int))) => f_laws_markPacketS.l0 n p.1 p.2.1 p.2.2.1 p.2.2.2) (fun _ => rfl) (fun n p => by kernel_rfl)
theorem E81 : ∀ x, funG fs X81 6 81 C81 x = C81.fn x := fun x => by kernel_rfl
theorem B81 : ConG Try.prog 81 C81 := ConG.make FS MIX TY (cons := K81) (L := L81) (ptrs := Q81) ⟨S70, trivial⟩ trivial ⟨⟨⟨N, fun p => f_laws_markPacketS.l0.ok N p⟩, trivial⟩, trivial⟩ rfl (by kernel_rfl) E81
theorem S81 : ConS Try.prog 81 C81 := B81.call (by kernel_rfl)
/-! laws.markWorld: function 34 -/
noncomputable def f_laws_markWorld (x0 : Int) (x1 : List (Int × (List (Int × List Int × Bool)) × (List (List Int × Int × List Bool × Bool × Int × Bool × Int × (List (Int × Bool)))) × (List (Int × (List (Int × Int × Bool × List Int)))) × List Int)) (x2 : List (Int × Int × Bool × Int × Int × Int × Bool × List Int)) (x3 : Int) : Option (Int × (List (Int × (List (Int × List Int × Bool)) × (List (List Int × Int × List Bool × Bool × Int × Bool × Int × (List (Int × Bool)))) × (List (Int × (List (Int × Int × Bool × List Int)))) × List Int)) × (List (Int × Int × Bool × Int × Int × Int × Bool × List Int))) :=
  (f_laws_markNodeS x1 x3).bind fun y255 =>
  (some (y255.2 : List (Int × (List (Int × List Int × Bool)) × (List (List Int × Int × List Bool × Bool × Int × Bool × Int × (List (Int × Bool)))) × (List (Int × (List (Int × Int × Bool × List Int)))) × List Int))).bind fun z256 =>
  (f_laws_markPacketS x2 y255.1).bind fun y257 =>
  (some (y257.2 : List (Int × Int × Bool × Int × Int × Int × Bool × List Int))).bind fun z258 =>
  some (y257.1, z256, z258)
noncomputable def C34 : Con := ⟨[(.I, true, [(.int .i64), (.sl R7), (.sl R8)]), (.B, false, [(.int .i64)])], [(false, [(.int .i64)])], [(.int .i64), (.sl R7), (.sl R8), (.int .i64)], [(.int .i64), (.sl R7), (.sl R8)], fun (p : Int × (List (Int × (List (Int × List Int × Bool)) × (List (List Int × Int × List Bool × Bool × Int × Bool × Int × (List (Int × Bool)))) × (List (Int × (List (Int × Int × Bool × List Int)))) × List Int)) × (List (Int × Int × Bool × Int × Int × Int × Bool × List Int)) × Int) => f_laws_markWorld p.1 p.2.1 p.2.2.1 p.2.2.2⟩
noncomputable abbrev K34 : Cons := [(80, C80), (81, C81)]
noncomputable abbrev L34 : List (Nat × Loops) := []
abbrev Q34 : List (Nat × List (Int × Nat) × Nat) := []
noncomputable abbrev X34 : Nat → Ctx := ctxOf tb K34 L34 Q34
theorem E34 : ∀ x, funG fs X34 6 34 C34 x = C34.fn x := fun x => by kernel_rfl
theorem B34 : ConG Try.prog 34 C34 := ConG.make FS MIX TY (cons := K34) (L := L34) (ptrs := Q34) ⟨S80, S81, trivial⟩ trivial trivial rfl (by kernel_rfl) E34
theorem S34 : ConS Try.prog 34 C34 := B34.call (by kernel_rfl)
/-! laws.heldIntS: function 73 -/
noncomputable def f_laws_heldIntS.l0 : Nat → (List Int) → Int → Int → Int → Option ((Int) ⊕ (Int × Int))
  | 0, _, _, _, _ => none
  | n + 1, p259, p260, p261, p262 =>
    bif (decide (p262 < (p259.length : Int))) then
      bif ((decide ((0 : Int) ≤ p262)) && (decide (p262 < (p259.length : Int)))) then
      bif (!(decide ((p259.getD p262.toNat 0) = p260))) then
        some (.inl (-1))
      else
        f_laws_heldIntS.l0 n p259 (IntKind.wrap .i64 (p260 + (1 : Int))) p261 (IntKind.wrap .i64 (p262 + (1 : Int)))
      else none
    else
      some (.inr (p260, p261))
noncomputable def f_laws_heldIntS (x0 : List Int) (x1 : Int) : Option (Int) :=
  (f_laws_heldIntS.l0 N x0 x1 0 0).bind fun r263 =>
  cs r263 (fun a264 =>
    some a264) (fun b265 =>
    some b265.1)
noncomputable def C73 : Con := ⟨[(.B, false, [(.sl R0)]), (.B, false, [(.int .i64)])], [(false, [(.int .i64)])], [(.sl R0), (.int .i64)], [(.int .i64)], fun (p : List Int × Int) => f_laws_heldIntS p.1 p.2⟩
noncomputable def f_laws_heldIntS.l0.c : LoopCon := ⟨1000, 6, [0, 1, 4, 5], ⟨[(0, .bor none R0 []), (1, .int .i64 0), (4, .int .i64 0), (5, .int .i64 0)], [], 1000⟩, [(.sl R0), (.int .i64), (.int .i64), (.int .i64)], [⟨.ret, [4], ⟨[(4, .int .i64 0)], [], 1000⟩, [(.int .i64)]⟩, ⟨.exit 0, [1, 4], ⟨[(1, .int .i64 0), (4, .int .i64 0)], [], 1000⟩, [(.int .i64), (.int .i64)]⟩], fun (p : List Int × Int × Int × Int) => f_laws_heldIntS.l0 N p.1 p.2.1 p.2.2.1 p.2.2.2⟩
noncomputable abbrev K73 : Cons := []
noncomputable abbrev L73 : List (Nat × Loops) := [(73, [(2, f_laws_heldIntS.l0.c)])]
abbrev Q73 : List (Nat × List (Int × Nat) × Nat) := []
noncomputable abbrev X73 : Nat → Ctx := ctxOf tb K73 L73 Q73
theorem f_laws_heldIntS.l0.ok : ∀ n p, (fun (p : List Int × Int × Int × Int) => f_laws_heldIntS.l0 n p.1 p.2.1 p.2.2.1 p.2.2.2) p = iterD (roundOf fs X73 6 73 2 false f_laws_heldIntS.l0.c) n p :=
  iter_of (l := fun n => fun (p : List Int × Int × Int × Int) => f_laws_heldIntS.l0 n p.1 p.2.1 p.2.2.1 p.2.2.2) (fun _ => rfl) (fun n p => by kernel_rfl)
theorem E73 : ∀ x, funRun fs X73 6 73 C73 x = C73.fn x := fun x => by kernel_rfl
theorem B73 : ConB Try.prog 73 C73 := ConB.make FS MIX TY (cons := K73) (L := L73) (ptrs := Q73) trivial trivial ⟨⟨⟨N, fun p => f_laws_heldIntS.l0.ok N p⟩, trivial⟩, trivial⟩ rfl rfl E73
theorem S73 : ConS Try.prog 73 C73 := B73.call rfl
/-! laws.heldFrameS: function 101 -/
noncomputable def f_laws_heldFrameS.l0 : Nat → (List (Int × List Int × Bool)) → Int → Int → Int → Option ((Int) ⊕ (Int × Int))
  | 0, _, _, _, _ => none
  | n + 1, p266, p267, p268, p269 =>
    bif (decide (p269 < (p266.length : Int))) then
      bif ((decide ((0 : Int) ≤ p269)) && (decide (p269 < (p266.length : Int)))) then
      bif (!(decide (((p266.getD p269.toNat (0, [], false)).1) = p267))) then
        some (.inl (-1))
      else
        bif ((decide ((0 : Int) ≤ p269)) && (decide (p269 < (p266.length : Int)))) then
        (f_laws_heldIntS ((p266.getD p269.toNat (0, [], false)).2.1) (IntKind.wrap .i64 (p267 + (1 : Int)))).bind fun y270 =>
        bif (decide (y270 < (0 : Int))) then
          some (.inl (-1))
        else
          bif ((decide ((0 : Int) ≤ p269)) && (decide (p269 < (p266.length : Int)))) then
          bif (!(((p266.getD p269.toNat (0, [], false)).2.2) == (decide ((Int.tmod y270 (3 : Int)) = (0 : Int))))) then
            some (.inl (-1))
          else
            f_laws_heldFrameS.l0 n p266 (IntKind.wrap .i64 (y270 + (1 : Int))) p268 (IntKind.wrap .i64 (p269 + (1 : Int)))
          else none
        else none
      else none
    else
      some (.inr (p267, p268))
noncomputable def f_laws_heldFrameS (x0 : List (Int × List Int × Bool)) (x1 : Int) : Option (Int) :=
  (f_laws_heldFrameS.l0 N x0 x1 0 0).bind fun r271 =>
  cs r271 (fun a272 =>
    some a272) (fun b273 =>
    some b273.1)
noncomputable def C101 : Con := ⟨[(.B, false, [(.sl R3)]), (.B, false, [(.int .i64)])], [(false, [(.int .i64)])], [(.sl R3), (.int .i64)], [(.int .i64)], fun (p : (List (Int × List Int × Bool)) × Int) => f_laws_heldFrameS p.1 p.2⟩
noncomputable def f_laws_heldFrameS.l0.c : LoopCon := ⟨1000, 6, [0, 1, 4, 5], ⟨[(0, .bor none R3 []), (1, .int .i64 0), (4, .int .i64 0), (5, .int .i64 0)], [], 1000⟩, [(.sl R3), (.int .i64), (.int .i64), (.int .i64)], [⟨.ret, [4], ⟨[(4, .int .i64 0)], [], 1000⟩, [(.int .i64)]⟩, ⟨.exit 0, [1, 4], ⟨[(1, .int .i64 0), (4, .int .i64 0)], [], 1000⟩, [(.int .i64), (.int .i64)]⟩], fun (p : (List (Int × List Int × Bool)) × Int × Int × Int) => f_laws_heldFrameS.l0 N p.1 p.2.1 p.2.2.1 p.2.2.2⟩
noncomputable abbrev K101 : Cons := [(73, C73)]
noncomputable abbrev L101 : List (Nat × Loops) := [(101, [(2, f_laws_heldFrameS.l0.c)])]
abbrev Q101 : List (Nat × List (Int × Nat) × Nat) := []
noncomputable abbrev X101 : Nat → Ctx := ctxOf tb K101 L101 Q101
theorem f_laws_heldFrameS.l0.ok : ∀ n p, (fun (p : (List (Int × List Int × Bool)) × Int × Int × Int) => f_laws_heldFrameS.l0 n p.1 p.2.1 p.2.2.1 p.2.2.2) p = iterD (roundOf fs X101 6 101 2 false f_laws_heldFrameS.l0.c) n p :=
  iter_of (l := fun n => fun (p : (List (Int × List Int × Bool)) × Int × Int × Int) => f_laws_heldFrameS.l0 n p.1 p.2.1 p.2.2.1 p.2.2.2) (fun _ => rfl) (fun n p => by kernel_rfl)
theorem E101 : ∀ x, funRun fs X101 6 101 C101 x = C101.fn x := fun x => by kernel_rfl
theorem B101 : ConB Try.prog 101 C101 := ConB.make FS MIX TY (cons := K101) (L := L101) (ptrs := Q101) ⟨S73, trivial⟩ trivial ⟨⟨⟨N, fun p => f_laws_heldFrameS.l0.ok N p⟩, trivial⟩, trivial⟩ rfl rfl E101
theorem S101 : ConS Try.prog 101 C101 := B101.call rfl
/-! laws.heldBoolS: function 74 -/
noncomputable def f_laws_heldBoolS.l0 : Nat → (List Bool) → Int → Int → Int → Option ((Int) ⊕ (Int × Int))
  | 0, _, _, _, _ => none
  | n + 1, p274, p275, p276, p277 =>
    bif (decide (p277 < (p274.length : Int))) then
      bif ((decide ((0 : Int) ≤ p277)) && (decide (p277 < (p274.length : Int)))) then
      bif (!((p274.getD p277.toNat false) == (decide ((Int.tmod p275 (3 : Int)) = (0 : Int))))) then
        some (.inl (-1))
      else
        f_laws_heldBoolS.l0 n p274 (IntKind.wrap .i64 (p275 + (1 : Int))) p276 (IntKind.wrap .i64 (p277 + (1 : Int)))
      else none
    else
      some (.inr (p275, p276))
noncomputable def f_laws_heldBoolS (x0 : List Bool) (x1 : Int) : Option (Int) :=
  (f_laws_heldBoolS.l0 N x0 x1 0 0).bind fun r278 =>
  cs r278 (fun a279 =>
    some a279) (fun b280 =>
    some b280.1)
noncomputable def C74 : Con := ⟨[(.B, false, [(.sl R1)]), (.B, false, [(.int .i64)])], [(false, [(.int .i64)])], [(.sl R1), (.int .i64)], [(.int .i64)], fun (p : List Bool × Int) => f_laws_heldBoolS p.1 p.2⟩
noncomputable def f_laws_heldBoolS.l0.c : LoopCon := ⟨1000, 6, [0, 1, 4, 5], ⟨[(0, .bor none R1 []), (1, .int .i64 0), (4, .int .i64 0), (5, .int .i64 0)], [], 1000⟩, [(.sl R1), (.int .i64), (.int .i64), (.int .i64)], [⟨.ret, [4], ⟨[(4, .int .i64 0)], [], 1000⟩, [(.int .i64)]⟩, ⟨.exit 0, [1, 4], ⟨[(1, .int .i64 0), (4, .int .i64 0)], [], 1000⟩, [(.int .i64), (.int .i64)]⟩], fun (p : List Bool × Int × Int × Int) => f_laws_heldBoolS.l0 N p.1 p.2.1 p.2.2.1 p.2.2.2⟩
noncomputable abbrev K74 : Cons := []
noncomputable abbrev L74 : List (Nat × Loops) := [(74, [(2, f_laws_heldBoolS.l0.c)])]
abbrev Q74 : List (Nat × List (Int × Nat) × Nat) := []
noncomputable abbrev X74 : Nat → Ctx := ctxOf tb K74 L74 Q74
theorem f_laws_heldBoolS.l0.ok : ∀ n p, (fun (p : List Bool × Int × Int × Int) => f_laws_heldBoolS.l0 n p.1 p.2.1 p.2.2.1 p.2.2.2) p = iterD (roundOf fs X74 6 74 2 false f_laws_heldBoolS.l0.c) n p :=
  iter_of (l := fun n => fun (p : List Bool × Int × Int × Int) => f_laws_heldBoolS.l0 n p.1 p.2.1 p.2.2.1 p.2.2.2) (fun _ => rfl) (fun n p => by kernel_rfl)
theorem E74 : ∀ x, funRun fs X74 6 74 C74 x = C74.fn x := fun x => by kernel_rfl
theorem B74 : ConB Try.prog 74 C74 := ConB.make FS MIX TY (cons := K74) (L := L74) (ptrs := Q74) trivial trivial ⟨⟨⟨N, fun p => f_laws_heldBoolS.l0.ok N p⟩, trivial⟩, trivial⟩ rfl rfl E74
theorem S74 : ConS Try.prog 74 C74 := B74.call rfl
/-! laws.heldWaitS: function 75 -/
noncomputable def f_laws_heldWaitS.l0 : Nat → (List (Int × Bool)) → Int → Int → Int → Option ((Int) ⊕ (Int × Int))
  | 0, _, _, _, _ => none
  | n + 1, p281, p282, p283, p284 =>
    bif (decide (p284 < (p281.length : Int))) then
      bif ((decide ((0 : Int) ≤ p284)) && (decide (p284 < (p281.length : Int)))) then
      bif (!(decide (((p281.getD p284.toNat (0, false)).1) = p282))) then
        some (.inl (-1))
      else
        bif ((decide ((0 : Int) ≤ p284)) && (decide (p284 < (p281.length : Int)))) then
        bif (!(((p281.getD p284.toNat (0, false)).2) == (decide ((Int.tmod (IntKind.wrap .i64 (p282 + (1 : Int))) (3 : Int)) = (0 : Int))))) then
          some (.inl (-1))
        else
          f_laws_heldWaitS.l0 n p281 (IntKind.wrap .i64 ((IntKind.wrap .i64 (p282 + (1 : Int))) + (1 : Int))) p283 (IntKind.wrap .i64 (p284 + (1 : Int)))
        else none
      else none
    else
      some (.inr (p282, p283))
noncomputable def f_laws_heldWaitS (x0 : List (Int × Bool)) (x1 : Int) : Option (Int) :=
  (f_laws_heldWaitS.l0 N x0 x1 0 0).bind fun r285 =>
  cs r285 (fun a286 =>
    some a286) (fun b287 =>
    some b287.1)
noncomputable def C75 : Con := ⟨[(.B, false, [(.sl R2)]), (.B, false, [(.int .i64)])], [(false, [(.int .i64)])], [(.sl R2), (.int .i64)], [(.int .i64)], fun (p : (List (Int × Bool)) × Int) => f_laws_heldWaitS p.1 p.2⟩
noncomputable def f_laws_heldWaitS.l0.c : LoopCon := ⟨1000, 6, [0, 1, 4, 5], ⟨[(0, .bor none R2 []), (1, .int .i64 0), (4, .int .i64 0), (5, .int .i64 0)], [], 1000⟩, [(.sl R2), (.int .i64), (.int .i64), (.int .i64)], [⟨.ret, [4], ⟨[(4, .int .i64 0)], [], 1000⟩, [(.int .i64)]⟩, ⟨.exit 0, [1, 4], ⟨[(1, .int .i64 0), (4, .int .i64 0)], [], 1000⟩, [(.int .i64), (.int .i64)]⟩], fun (p : (List (Int × Bool)) × Int × Int × Int) => f_laws_heldWaitS.l0 N p.1 p.2.1 p.2.2.1 p.2.2.2⟩
noncomputable abbrev K75 : Cons := []
noncomputable abbrev L75 : List (Nat × Loops) := [(75, [(2, f_laws_heldWaitS.l0.c)])]
abbrev Q75 : List (Nat × List (Int × Nat) × Nat) := []
noncomputable abbrev X75 : Nat → Ctx := ctxOf tb K75 L75 Q75
theorem f_laws_heldWaitS.l0.ok : ∀ n p, (fun (p : (List (Int × Bool)) × Int × Int × Int) => f_laws_heldWaitS.l0 n p.1 p.2.1 p.2.2.1 p.2.2.2) p = iterD (roundOf fs X75 6 75 2 false f_laws_heldWaitS.l0.c) n p :=
  iter_of (l := fun n => fun (p : (List (Int × Bool)) × Int × Int × Int) => f_laws_heldWaitS.l0 n p.1 p.2.1 p.2.2.1 p.2.2.2) (fun _ => rfl) (fun n p => by kernel_rfl)
theorem E75 : ∀ x, funRun fs X75 6 75 C75 x = C75.fn x := fun x => by kernel_rfl
theorem B75 : ConB Try.prog 75 C75 := ConB.make FS MIX TY (cons := K75) (L := L75) (ptrs := Q75) trivial trivial ⟨⟨⟨N, fun p => f_laws_heldWaitS.l0.ok N p⟩, trivial⟩, trivial⟩ rfl rfl E75
theorem S75 : ConS Try.prog 75 C75 := B75.call rfl
/-! laws.heldHomeS: function 102 -/
noncomputable def f_laws_heldHomeS.l0 : Nat → (List (List Int × Int × List Bool × Bool × Int × Bool × Int × (List (Int × Bool)))) → Int → Int → Int → Option ((Int) ⊕ (Int × Int))
  | 0, _, _, _, _ => none
  | n + 1, p288, p289, p290, p291 =>
    bif (decide (p291 < (p288.length : Int))) then
      bif ((decide ((0 : Int) ≤ p291)) && (decide (p291 < (p288.length : Int)))) then
      (f_laws_heldIntS ((p288.getD p291.toNat ([], 0, [], false, 0, false, 0, [])).1) p289).bind fun y292 =>
      bif (decide (y292 < (0 : Int))) then
        some (.inl (-1))
      else
        bif ((decide ((0 : Int) ≤ p291)) && (decide (p291 < (p288.length : Int)))) then
        bif (!(decide (((p288.getD p291.toNat ([], 0, [], false, 0, false, 0, [])).2.1) = y292))) then
          some (.inl (-1))
        else
          bif ((decide ((0 : Int) ≤ p291)) && (decide (p291 < (p288.length : Int)))) then
          (f_laws_heldBoolS ((p288.getD p291.toNat ([], 0, [], false, 0, false, 0, [])).2.2.1) (IntKind.wrap .i64 (y292 + (1 : Int)))).bind fun y293 =>
          bif (decide (y293 < (0 : Int))) then
            some (.inl (-1))
          else
            bif ((decide ((0 : Int) ≤ p291)) && (decide (p291 < (p288.length : Int)))) then
            bif (!(((p288.getD p291.toNat ([], 0, [], false, 0, false, 0, [])).2.2.2.1) == (decide ((Int.tmod y293 (3 : Int)) = (0 : Int))))) then
              some (.inl (-1))
            else
              bif ((decide ((0 : Int) ≤ p291)) && (decide (p291 < (p288.length : Int)))) then
              bif (!(decide (((p288.getD p291.toNat ([], 0, [], false, 0, false, 0, [])).2.2.2.2.1) = (IntKind.wrap .i64 (y293 + (1 : Int)))))) then
                some (.inl (-1))
              else
                bif ((decide ((0 : Int) ≤ p291)) && (decide (p291 < (p288.length : Int)))) then
                bif (!(((p288.getD p291.toNat ([], 0, [], false, 0, false, 0, [])).2.2.2.2.2.1) == (decide ((Int.tmod (IntKind.wrap .i64 ((IntKind.wrap .i64 (y293 + (1 : Int))) + (1 : Int))) (3 : Int)) = (0 : Int))))) then
                  some (.inl (-1))
                else
                  bif ((decide ((0 : Int) ≤ p291)) && (decide (p291 < (p288.length : Int)))) then
                  bif (!(decide (((p288.getD p291.toNat ([], 0, [], false, 0, false, 0, [])).2.2.2.2.2.2.1) = (IntKind.wrap .i64 ((IntKind.wrap .i64 ((IntKind.wrap .i64 (y293 + (1 : Int))) + (1 : Int))) + (1 : Int)))))) then
                    some (.inl (-1))
                  else
                    bif ((decide ((0 : Int) ≤ p291)) && (decide (p291 < (p288.length : Int)))) then
                    (f_laws_heldWaitS ((p288.getD p291.toNat ([], 0, [], false, 0, false, 0, [])).2.2.2.2.2.2.2) (IntKind.wrap .i64 ((IntKind.wrap .i64 ((IntKind.wrap .i64 ((IntKind.wrap .i64 (y293 + (1 : Int))) + (1 : Int))) + (1 : Int))) + (1 : Int)))).bind fun y294 =>
                    bif (decide (y294 < (0 : Int))) then
                      some (.inl (-1))
                    else
                      f_laws_heldHomeS.l0 n p288 y294 p290 (IntKind.wrap .i64 (p291 + (1 : Int)))
                    else none
                  else none
                else none
              else none
            else none
          else none
        else none
      else none
    else
      some (.inr (p289, p290))
noncomputable def f_laws_heldHomeS (x0 : List (List Int × Int × List Bool × Bool × Int × Bool × Int × (List (Int × Bool)))) (x1 : Int) : Option (Int) :=
  (f_laws_heldHomeS.l0 N x0 x1 0 0).bind fun r295 =>
  cs r295 (fun a296 =>
    some a296) (fun b297 =>
    some b297.1)
noncomputable def C102 : Con := ⟨[(.B, false, [(.sl R4)]), (.B, false, [(.int .i64)])], [(false, [(.int .i64)])], [(.sl R4), (.int .i64)], [(.int .i64)], fun (p : (List (List Int × Int × List Bool × Bool × Int × Bool × Int × (List (Int × Bool)))) × Int) => f_laws_heldHomeS p.1 p.2⟩
noncomputable def f_laws_heldHomeS.l0.c : LoopCon := ⟨1000, 6, [0, 1, 4, 5], ⟨[(0, .bor none R4 []), (1, .int .i64 0), (4, .int .i64 0), (5, .int .i64 0)], [], 1000⟩, [(.sl R4), (.int .i64), (.int .i64), (.int .i64)], [⟨.ret, [4], ⟨[(4, .int .i64 0)], [], 1000⟩, [(.int .i64)]⟩, ⟨.exit 0, [1, 4], ⟨[(1, .int .i64 0), (4, .int .i64 0)], [], 1000⟩, [(.int .i64), (.int .i64)]⟩], fun (p : (List (List Int × Int × List Bool × Bool × Int × Bool × Int × (List (Int × Bool)))) × Int × Int × Int) => f_laws_heldHomeS.l0 N p.1 p.2.1 p.2.2.1 p.2.2.2⟩
noncomputable abbrev K102 : Cons := [(73, C73), (74, C74), (75, C75)]
noncomputable abbrev L102 : List (Nat × Loops) := [(102, [(2, f_laws_heldHomeS.l0.c)])]
abbrev Q102 : List (Nat × List (Int × Nat) × Nat) := []
noncomputable abbrev X102 : Nat → Ctx := ctxOf tb K102 L102 Q102
theorem f_laws_heldHomeS.l0.ok : ∀ n p, (fun (p : (List (List Int × Int × List Bool × Bool × Int × Bool × Int × (List (Int × Bool)))) × Int × Int × Int) => f_laws_heldHomeS.l0 n p.1 p.2.1 p.2.2.1 p.2.2.2) p = iterD (roundOf fs X102 6 102 2 false f_laws_heldHomeS.l0.c) n p :=
  iter_of (l := fun n => fun (p : (List (List Int × Int × List Bool × Bool × Int × Bool × Int × (List (Int × Bool)))) × Int × Int × Int) => f_laws_heldHomeS.l0 n p.1 p.2.1 p.2.2.1 p.2.2.2) (fun _ => rfl) (fun n p => by kernel_rfl)
theorem E102 : ∀ x, funRun fs X102 6 102 C102 x = C102.fn x := fun x => by kernel_rfl
theorem B102 : ConB Try.prog 102 C102 := ConB.make FS MIX TY (cons := K102) (L := L102) (ptrs := Q102) ⟨S73, S74, S75, trivial⟩ trivial ⟨⟨⟨N, fun p => f_laws_heldHomeS.l0.ok N p⟩, trivial⟩, trivial⟩ rfl rfl E102
theorem S102 : ConS Try.prog 102 C102 := B102.call rfl
/-! laws.heldMsgS: function 114 -/
noncomputable def f_laws_heldMsgS.l0 : Nat → (List (Int × Int × Bool × List Int)) → Int → Int → Int → Option ((Int) ⊕ (Int × Int))
  | 0, _, _, _, _ => none
  | n + 1, p298, p299, p300, p301 =>
    bif (decide (p301 < (p298.length : Int))) then
      bif ((decide ((0 : Int) ≤ p301)) && (decide (p301 < (p298.length : Int)))) then
      bif (!(decide (((p298.getD p301.toNat (0, 0, false, [])).1) = p299))) then
        some (.inl (-1))
      else
        bif ((decide ((0 : Int) ≤ p301)) && (decide (p301 < (p298.length : Int)))) then
        bif (!(decide (((p298.getD p301.toNat (0, 0, false, [])).2.1) = (IntKind.wrap .i64 (p299 + (1 : Int)))))) then
          some (.inl (-1))
        else
          bif ((decide ((0 : Int) ≤ p301)) && (decide (p301 < (p298.length : Int)))) then
          bif (!(((p298.getD p301.toNat (0, 0, false, [])).2.2.1) == (decide ((Int.tmod (IntKind.wrap .i64 ((IntKind.wrap .i64 (p299 + (1 : Int))) + (1 : Int))) (3 : Int)) = (0 : Int))))) then
            some (.inl (-1))
          else
            bif ((decide ((0 : Int) ≤ p301)) && (decide (p301 < (p298.length : Int)))) then
            (f_laws_heldIntS ((p298.getD p301.toNat (0, 0, false, [])).2.2.2) (IntKind.wrap .i64 ((IntKind.wrap .i64 ((IntKind.wrap .i64 (p299 + (1 : Int))) + (1 : Int))) + (1 : Int)))).bind fun y302 =>
            bif (decide (y302 < (0 : Int))) then
              some (.inl (-1))
            else
              f_laws_heldMsgS.l0 n p298 y302 p300 (IntKind.wrap .i64 (p301 + (1 : Int)))
            else none
          else none
        else none
      else none
    else
      some (.inr (p299, p300))
noncomputable def f_laws_heldMsgS (x0 : List (Int × Int × Bool × List Int)) (x1 : Int) : Option (Int) :=
  (f_laws_heldMsgS.l0 N x0 x1 0 0).bind fun r303 =>
  cs r303 (fun a304 =>
    some a304) (fun b305 =>
    some b305.1)
noncomputable def C114 : Con := ⟨[(.B, false, [(.sl R5)]), (.B, false, [(.int .i64)])], [(false, [(.int .i64)])], [(.sl R5), (.int .i64)], [(.int .i64)], fun (p : (List (Int × Int × Bool × List Int)) × Int) => f_laws_heldMsgS p.1 p.2⟩
noncomputable def f_laws_heldMsgS.l0.c : LoopCon := ⟨1000, 6, [0, 1, 4, 5], ⟨[(0, .bor none R5 []), (1, .int .i64 0), (4, .int .i64 0), (5, .int .i64 0)], [], 1000⟩, [(.sl R5), (.int .i64), (.int .i64), (.int .i64)], [⟨.ret, [4], ⟨[(4, .int .i64 0)], [], 1000⟩, [(.int .i64)]⟩, ⟨.exit 0, [1, 4], ⟨[(1, .int .i64 0), (4, .int .i64 0)], [], 1000⟩, [(.int .i64), (.int .i64)]⟩], fun (p : (List (Int × Int × Bool × List Int)) × Int × Int × Int) => f_laws_heldMsgS.l0 N p.1 p.2.1 p.2.2.1 p.2.2.2⟩
noncomputable abbrev K114 : Cons := [(73, C73)]
noncomputable abbrev L114 : List (Nat × Loops) := [(114, [(2, f_laws_heldMsgS.l0.c)])]
abbrev Q114 : List (Nat × List (Int × Nat) × Nat) := []
noncomputable abbrev X114 : Nat → Ctx := ctxOf tb K114 L114 Q114
theorem f_laws_heldMsgS.l0.ok : ∀ n p, (fun (p : (List (Int × Int × Bool × List Int)) × Int × Int × Int) => f_laws_heldMsgS.l0 n p.1 p.2.1 p.2.2.1 p.2.2.2) p = iterD (roundOf fs X114 6 114 2 false f_laws_heldMsgS.l0.c) n p :=
  iter_of (l := fun n => fun (p : (List (Int × Int × Bool × List Int)) × Int × Int × Int) => f_laws_heldMsgS.l0 n p.1 p.2.1 p.2.2.1 p.2.2.2) (fun _ => rfl) (fun n p => by kernel_rfl)
theorem E114 : ∀ x, funRun fs X114 6 114 C114 x = C114.fn x := fun x => by kernel_rfl
theorem B114 : ConB Try.prog 114 C114 := ConB.make FS MIX TY (cons := K114) (L := L114) (ptrs := Q114) ⟨S73, trivial⟩ trivial ⟨⟨⟨N, fun p => f_laws_heldMsgS.l0.ok N p⟩, trivial⟩, trivial⟩ rfl rfl E114
theorem S114 : ConS Try.prog 114 C114 := B114.call rfl
/-! laws.heldSenderS: function 103 -/
noncomputable def f_laws_heldSenderS.l0 : Nat → (List (Int × (List (Int × Int × Bool × List Int)))) → Int → Int → Int → Option ((Int) ⊕ (Int × Int))
  | 0, _, _, _, _ => none
  | n + 1, p306, p307, p308, p309 =>
    bif (decide (p309 < (p306.length : Int))) then
      bif ((decide ((0 : Int) ≤ p309)) && (decide (p309 < (p306.length : Int)))) then
      bif (!(decide (((p306.getD p309.toNat (0, [])).1) = p307))) then
        some (.inl (-1))
      else
        bif ((decide ((0 : Int) ≤ p309)) && (decide (p309 < (p306.length : Int)))) then
        (f_laws_heldMsgS ((p306.getD p309.toNat (0, [])).2) (IntKind.wrap .i64 (p307 + (1 : Int)))).bind fun y310 =>
        bif (decide (y310 < (0 : Int))) then
          some (.inl (-1))
        else
          f_laws_heldSenderS.l0 n p306 y310 p308 (IntKind.wrap .i64 (p309 + (1 : Int)))
        else none
      else none
    else
      some (.inr (p307, p308))
noncomputable def f_laws_heldSenderS (x0 : List (Int × (List (Int × Int × Bool × List Int)))) (x1 : Int) : Option (Int) :=
  (f_laws_heldSenderS.l0 N x0 x1 0 0).bind fun r311 =>
  cs r311 (fun a312 =>
    some a312) (fun b313 =>
    some b313.1)
noncomputable def C103 : Con := ⟨[(.B, false, [(.sl R6)]), (.B, false, [(.int .i64)])], [(false, [(.int .i64)])], [(.sl R6), (.int .i64)], [(.int .i64)], fun (p : (List (Int × (List (Int × Int × Bool × List Int)))) × Int) => f_laws_heldSenderS p.1 p.2⟩
noncomputable def f_laws_heldSenderS.l0.c : LoopCon := ⟨1000, 6, [0, 1, 4, 5], ⟨[(0, .bor none R6 []), (1, .int .i64 0), (4, .int .i64 0), (5, .int .i64 0)], [], 1000⟩, [(.sl R6), (.int .i64), (.int .i64), (.int .i64)], [⟨.ret, [4], ⟨[(4, .int .i64 0)], [], 1000⟩, [(.int .i64)]⟩, ⟨.exit 0, [1, 4], ⟨[(1, .int .i64 0), (4, .int .i64 0)], [], 1000⟩, [(.int .i64), (.int .i64)]⟩], fun (p : (List (Int × (List (Int × Int × Bool × List Int)))) × Int × Int × Int) => f_laws_heldSenderS.l0 N p.1 p.2.1 p.2.2.1 p.2.2.2⟩
noncomputable abbrev K103 : Cons := [(114, C114)]
noncomputable abbrev L103 : List (Nat × Loops) := [(103, [(2, f_laws_heldSenderS.l0.c)])]
abbrev Q103 : List (Nat × List (Int × Nat) × Nat) := []
noncomputable abbrev X103 : Nat → Ctx := ctxOf tb K103 L103 Q103
theorem f_laws_heldSenderS.l0.ok : ∀ n p, (fun (p : (List (Int × (List (Int × Int × Bool × List Int)))) × Int × Int × Int) => f_laws_heldSenderS.l0 n p.1 p.2.1 p.2.2.1 p.2.2.2) p = iterD (roundOf fs X103 6 103 2 false f_laws_heldSenderS.l0.c) n p :=
  iter_of (l := fun n => fun (p : (List (Int × (List (Int × Int × Bool × List Int)))) × Int × Int × Int) => f_laws_heldSenderS.l0 n p.1 p.2.1 p.2.2.1 p.2.2.2) (fun _ => rfl) (fun n p => by kernel_rfl)
theorem E103 : ∀ x, funRun fs X103 6 103 C103 x = C103.fn x := fun x => by kernel_rfl
theorem B103 : ConB Try.prog 103 C103 := ConB.make FS MIX TY (cons := K103) (L := L103) (ptrs := Q103) ⟨S114, trivial⟩ trivial ⟨⟨⟨N, fun p => f_laws_heldSenderS.l0.ok N p⟩, trivial⟩, trivial⟩ rfl rfl E103
theorem S103 : ConS Try.prog 103 C103 := B103.call rfl
/-! laws.heldReceiverS: function 104 -/
noncomputable def f_laws_heldReceiverS.l0 : Nat → (List Int) → Int → Int → Int → Option ((Int) ⊕ (Int × Int))
  | 0, _, _, _, _ => none
  | n + 1, p314, p315, p316, p317 =>
    bif (decide (p317 < (p314.length : Int))) then
      bif ((decide ((0 : Int) ≤ p317)) && (decide (p317 < (p314.length : Int)))) then
      bif (!(decide ((p314.getD p317.toNat 0) = p315))) then
        some (.inl (-1))
      else
        f_laws_heldReceiverS.l0 n p314 (IntKind.wrap .i64 (p315 + (1 : Int))) p316 (IntKind.wrap .i64 (p317 + (1 : Int)))
      else none
    else
      some (.inr (p315, p316))
noncomputable def f_laws_heldReceiverS (x0 : List Int) (x1 : Int) : Option (Int) :=
  (f_laws_heldReceiverS.l0 N x0 x1 0 0).bind fun r318 =>
  cs r318 (fun a319 =>
    some a319) (fun b320 =>
    some b320.1)
noncomputable def C104 : Con := ⟨[(.B, false, [(.sl R0)]), (.B, false, [(.int .i64)])], [(false, [(.int .i64)])], [(.sl R0), (.int .i64)], [(.int .i64)], fun (p : List Int × Int) => f_laws_heldReceiverS p.1 p.2⟩
noncomputable def f_laws_heldReceiverS.l0.c : LoopCon := ⟨1000, 6, [0, 1, 4, 5], ⟨[(0, .bor none R0 []), (1, .int .i64 0), (4, .int .i64 0), (5, .int .i64 0)], [], 1000⟩, [(.sl R0), (.int .i64), (.int .i64), (.int .i64)], [⟨.ret, [4], ⟨[(4, .int .i64 0)], [], 1000⟩, [(.int .i64)]⟩, ⟨.exit 0, [1, 4], ⟨[(1, .int .i64 0), (4, .int .i64 0)], [], 1000⟩, [(.int .i64), (.int .i64)]⟩], fun (p : List Int × Int × Int × Int) => f_laws_heldReceiverS.l0 N p.1 p.2.1 p.2.2.1 p.2.2.2⟩
noncomputable abbrev K104 : Cons := []
noncomputable abbrev L104 : List (Nat × Loops) := [(104, [(2, f_laws_heldReceiverS.l0.c)])]
abbrev Q104 : List (Nat × List (Int × Nat) × Nat) := []
noncomputable abbrev X104 : Nat → Ctx := ctxOf tb K104 L104 Q104
theorem f_laws_heldReceiverS.l0.ok : ∀ n p, (fun (p : List Int × Int × Int × Int) => f_laws_heldReceiverS.l0 n p.1 p.2.1 p.2.2.1 p.2.2.2) p = iterD (roundOf fs X104 6 104 2 false f_laws_heldReceiverS.l0.c) n p :=
  iter_of (l := fun n => fun (p : List Int × Int × Int × Int) => f_laws_heldReceiverS.l0 n p.1 p.2.1 p.2.2.1 p.2.2.2) (fun _ => rfl) (fun n p => by kernel_rfl)
theorem E104 : ∀ x, funRun fs X104 6 104 C104 x = C104.fn x := fun x => by kernel_rfl
theorem B104 : ConB Try.prog 104 C104 := ConB.make FS MIX TY (cons := K104) (L := L104) (ptrs := Q104) trivial trivial ⟨⟨⟨N, fun p => f_laws_heldReceiverS.l0.ok N p⟩, trivial⟩, trivial⟩ rfl rfl E104
theorem S104 : ConS Try.prog 104 C104 := B104.call rfl
/-! laws.heldNodeS: function 82 -/
noncomputable def f_laws_heldNodeS.l0 : Nat → (List (Int × (List (Int × List Int × Bool)) × (List (List Int × Int × List Bool × Bool × Int × Bool × Int × (List (Int × Bool)))) × (List (Int × (List (Int × Int × Bool × List Int)))) × List Int)) → Int → Int → Int → Option ((Int) ⊕ (Int × Int))
  | 0, _, _, _, _ => none
  | n + 1, p321, p322, p323, p324 =>
    bif (decide (p324 < (p321.length : Int))) then
      bif ((decide ((0 : Int) ≤ p324)) && (decide (p324 < (p321.length : Int)))) then
      bif (!(decide (((p321.getD p324.toNat (0, [], [], [], [])).1) = p322))) then
        some (.inl (-1))
      else
        bif ((decide ((0 : Int) ≤ p324)) && (decide (p324 < (p321.length : Int)))) then
        (f_laws_heldFrameS ((p321.getD p324.toNat (0, [], [], [], [])).2.1) (IntKind.wrap .i64 (p322 + (1 : Int)))).bind fun y325 =>
        bif (decide (y325 < (0 : Int))) then
          some (.inl (-1))
        else
          bif ((decide ((0 : Int) ≤ p324)) && (decide (p324 < (p321.length : Int)))) then
          (f_laws_heldHomeS ((p321.getD p324.toNat (0, [], [], [], [])).2.2.1) y325).bind fun y326 =>
          bif (decide (y326 < (0 : Int))) then
            some (.inl (-1))
          else
            bif ((decide ((0 : Int) ≤ p324)) && (decide (p324 < (p321.length : Int)))) then
            (f_laws_heldSenderS ((p321.getD p324.toNat (0, [], [], [], [])).2.2.2.1) y326).bind fun y327 =>
            bif (decide (y327 < (0 : Int))) then
              some (.inl (-1))
            else
              bif ((decide ((0 : Int) ≤ p324)) && (decide (p324 < (p321.length : Int)))) then
              (f_laws_heldReceiverS ((p321.getD p324.toNat (0, [], [], [], [])).2.2.2.2) y327).bind fun y328 =>
              bif (decide (y328 < (0 : Int))) then
                some (.inl (-1))
              else
                f_laws_heldNodeS.l0 n p321 y328 p323 (IntKind.wrap .i64 (p324 + (1 : Int)))
              else none
            else none
          else none
        else none
      else none
    else
      some (.inr (p322, p323))
noncomputable def f_laws_heldNodeS (x0 : List (Int × (List (Int × List Int × Bool)) × (List (List Int × Int × List Bool × Bool × Int × Bool × Int × (List (Int × Bool)))) × (List (Int × (List (Int × Int × Bool × List Int)))) × List Int)) (x1 : Int) : Option (Int) :=
  (f_laws_heldNodeS.l0 N x0 x1 0 0).bind fun r329 =>
  cs r329 (fun a330 =>
    some a330) (fun b331 =>
    some b331.1)
noncomputable def C82 : Con := ⟨[(.B, false, [(.sl R7)]), (.B, false, [(.int .i64)])], [(false, [(.int .i64)])], [(.sl R7), (.int .i64)], [(.int .i64)], fun (p : (List (Int × (List (Int × List Int × Bool)) × (List (List Int × Int × List Bool × Bool × Int × Bool × Int × (List (Int × Bool)))) × (List (Int × (List (Int × Int × Bool × List Int)))) × List Int)) × Int) => f_laws_heldNodeS p.1 p.2⟩
noncomputable def f_laws_heldNodeS.l0.c : LoopCon := ⟨1000, 6, [0, 1, 4, 5], ⟨[(0, .bor none R7 []), (1, .int .i64 0), (4, .int .i64 0), (5, .int .i64 0)], [], 1000⟩, [(.sl R7), (.int .i64), (.int .i64), (.int .i64)], [⟨.ret, [4], ⟨[(4, .int .i64 0)], [], 1000⟩, [(.int .i64)]⟩, ⟨.exit 0, [1, 4], ⟨[(1, .int .i64 0), (4, .int .i64 0)], [], 1000⟩, [(.int .i64), (.int .i64)]⟩], fun (p : (List (Int × (List (Int × List Int × Bool)) × (List (List Int × Int × List Bool × Bool × Int × Bool × Int × (List (Int × Bool)))) × (List (Int × (List (Int × Int × Bool × List Int)))) × List Int)) × Int × Int × Int) => f_laws_heldNodeS.l0 N p.1 p.2.1 p.2.2.1 p.2.2.2⟩
noncomputable abbrev K82 : Cons := [(101, C101), (102, C102), (103, C103), (104, C104)]
noncomputable abbrev L82 : List (Nat × Loops) := [(82, [(2, f_laws_heldNodeS.l0.c)])]
abbrev Q82 : List (Nat × List (Int × Nat) × Nat) := []
noncomputable abbrev X82 : Nat → Ctx := ctxOf tb K82 L82 Q82
theorem f_laws_heldNodeS.l0.ok : ∀ n p, (fun (p : (List (Int × (List (Int × List Int × Bool)) × (List (List Int × Int × List Bool × Bool × Int × Bool × Int × (List (Int × Bool)))) × (List (Int × (List (Int × Int × Bool × List Int)))) × List Int)) × Int × Int × Int) => f_laws_heldNodeS.l0 n p.1 p.2.1 p.2.2.1 p.2.2.2) p = iterD (roundOf fs X82 6 82 2 false f_laws_heldNodeS.l0.c) n p :=
  iter_of (l := fun n => fun (p : (List (Int × (List (Int × List Int × Bool)) × (List (List Int × Int × List Bool × Bool × Int × Bool × Int × (List (Int × Bool)))) × (List (Int × (List (Int × Int × Bool × List Int)))) × List Int)) × Int × Int × Int) => f_laws_heldNodeS.l0 n p.1 p.2.1 p.2.2.1 p.2.2.2) (fun _ => rfl) (fun n p => by kernel_rfl)
theorem E82 : ∀ x, funRun fs X82 6 82 C82 x = C82.fn x := fun x => by kernel_rfl
theorem B82 : ConB Try.prog 82 C82 := ConB.make FS MIX TY (cons := K82) (L := L82) (ptrs := Q82) ⟨S101, S102, S103, S104, trivial⟩ trivial ⟨⟨⟨N, fun p => f_laws_heldNodeS.l0.ok N p⟩, trivial⟩, trivial⟩ rfl rfl E82
theorem S82 : ConS Try.prog 82 C82 := B82.call rfl
/-! laws.heldPacketS: function 83 -/
noncomputable def f_laws_heldPacketS.l0 : Nat → (List (Int × Int × Bool × Int × Int × Int × Bool × List Int)) → Int → Int → Int → Option ((Int) ⊕ (Int × Int))
  | 0, _, _, _, _ => none
  | n + 1, p332, p333, p334, p335 =>
    bif (decide (p335 < (p332.length : Int))) then
      bif ((decide ((0 : Int) ≤ p335)) && (decide (p335 < (p332.length : Int)))) then
      bif (!(decide (((p332.getD p335.toNat (0, 0, false, 0, 0, 0, false, [])).1) = p333))) then
        some (.inl (-1))
      else
        bif ((decide ((0 : Int) ≤ p335)) && (decide (p335 < (p332.length : Int)))) then
        bif (!(decide (((p332.getD p335.toNat (0, 0, false, 0, 0, 0, false, [])).2.1) = (IntKind.wrap .i64 (p333 + (1 : Int)))))) then
          some (.inl (-1))
        else
          bif ((decide ((0 : Int) ≤ p335)) && (decide (p335 < (p332.length : Int)))) then
          bif (!(((p332.getD p335.toNat (0, 0, false, 0, 0, 0, false, [])).2.2.1) == (decide ((Int.tmod (IntKind.wrap .i64 ((IntKind.wrap .i64 (p333 + (1 : Int))) + (1 : Int))) (3 : Int)) = (0 : Int))))) then
            some (.inl (-1))
          else
            bif ((decide ((0 : Int) ≤ p335)) && (decide (p335 < (p332.length : Int)))) then
            bif (!(decide (((p332.getD p335.toNat (0, 0, false, 0, 0, 0, false, [])).2.2.2.1) = (IntKind.wrap .i64 ((IntKind.wrap .i64 ((IntKind.wrap .i64 (p333 + (1 : Int))) + (1 : Int))) + (1 : Int)))))) then
              some (.inl (-1))
            else
              bif ((decide ((0 : Int) ≤ p335)) && (decide (p335 < (p332.length : Int)))) then
              bif (!(decide (((p332.getD p335.toNat (0, 0, false, 0, 0, 0, false, [])).2.2.2.2.1) = (IntKind.wrap .i64 ((IntKind.wrap .i64 ((IntKind.wrap .i64 ((IntKind.wrap .i64 (p333 + (1 : Int))) + (1 : Int))) + (1 : Int))) + (1 : Int)))))) then
                some (.inl (-1))
              else
                bif ((decide ((0 : Int) ≤ p335)) && (decide (p335 < (p332.length : Int)))) then
                bif (!(decide (((p332.getD p335.toNat (0, 0, false, 0, 0, 0, false, [])).2.2.2.2.2.1) = (IntKind.wrap .i64 ((IntKind.wrap .i64 ((IntKind.wrap .i64 ((IntKind.wrap .i64 ((IntKind.wrap .i64 (p333 + (1 : Int))) + (1 : Int))) + (1 : Int))) + (1 : Int))) + (1 : Int)))))) then
                  some (.inl (-1))
                else
                  bif ((decide ((0 : Int) ≤ p335)) && (decide (p335 < (p332.length : Int)))) then
                  bif (!(((p332.getD p335.toNat (0, 0, false, 0, 0, 0, false, [])).2.2.2.2.2.2.1) == (decide ((Int.tmod (IntKind.wrap .i64 ((IntKind.wrap .i64 ((IntKind.wrap .i64 ((IntKind.wrap .i64 ((IntKind.wrap .i64 ((IntKind.wrap .i64 (p333 + (1 : Int))) + (1 : Int))) + (1 : Int))) + (1 : Int))) + (1 : Int))) + (1 : Int))) (3 : Int)) = (0 : Int))))) then
                    some (.inl (-1))
                  else
                    bif ((decide ((0 : Int) ≤ p335)) && (decide (p335 < (p332.length : Int)))) then
                    (f_laws_heldIntS ((p332.getD p335.toNat (0, 0, false, 0, 0, 0, false, [])).2.2.2.2.2.2.2) (IntKind.wrap .i64 ((IntKind.wrap .i64 ((IntKind.wrap .i64 ((IntKind.wrap .i64 ((IntKind.wrap .i64 ((IntKind.wrap .i64 ((IntKind.wrap .i64 (p333 + (1 : Int))) + (1 : Int))) + (1 : Int))) + (1 : Int))) + (1 : Int))) + (1 : Int))) + (1 : Int)))).bind fun y336 =>
                    bif (decide (y336 < (0 : Int))) then
                      some (.inl (-1))
                    else
                      f_laws_heldPacketS.l0 n p332 y336 p334 (IntKind.wrap .i64 (p335 + (1 : Int)))
                    else none
                  else none
                else none
              else none
            else none
          else none
        else none
      else none
    else
      some (.inr (p333, p334))
noncomputable def f_laws_heldPacketS (x0 : List (Int × Int × Bool × Int × Int × Int × Bool × List Int)) (x1 : Int) : Option (Int) :=
  (f_laws_heldPacketS.l0 N x0 x1 0 0).bind fun r337 =>
  cs r337 (fun a338 =>
    some a338) (fun b339 =>
    some b339.1)
noncomputable def C83 : Con := ⟨[(.B, false, [(.sl R8)]), (.B, false, [(.int .i64)])], [(false, [(.int .i64)])], [(.sl R8), (.int .i64)], [(.int .i64)], fun (p : (List (Int × Int × Bool × Int × Int × Int × Bool × List Int)) × Int) => f_laws_heldPacketS p.1 p.2⟩
noncomputable def f_laws_heldPacketS.l0.c : LoopCon := ⟨1000, 6, [0, 1, 4, 5], ⟨[(0, .bor none R8 []), (1, .int .i64 0), (4, .int .i64 0), (5, .int .i64 0)], [], 1000⟩, [(.sl R8), (.int .i64), (.int .i64), (.int .i64)], [⟨.ret, [4], ⟨[(4, .int .i64 0)], [], 1000⟩, [(.int .i64)]⟩, ⟨.exit 0, [1, 4], ⟨[(1, .int .i64 0), (4, .int .i64 0)], [], 1000⟩, [(.int .i64), (.int .i64)]⟩], fun (p : (List (Int × Int × Bool × Int × Int × Int × Bool × List Int)) × Int × Int × Int) => f_laws_heldPacketS.l0 N p.1 p.2.1 p.2.2.1 p.2.2.2⟩
noncomputable abbrev K83 : Cons := [(73, C73)]
noncomputable abbrev L83 : List (Nat × Loops) := [(83, [(2, f_laws_heldPacketS.l0.c)])]
abbrev Q83 : List (Nat × List (Int × Nat) × Nat) := []
noncomputable abbrev X83 : Nat → Ctx := ctxOf tb K83 L83 Q83
theorem f_laws_heldPacketS.l0.ok : ∀ n p, (fun (p : (List (Int × Int × Bool × Int × Int × Int × Bool × List Int)) × Int × Int × Int) => f_laws_heldPacketS.l0 n p.1 p.2.1 p.2.2.1 p.2.2.2) p = iterD (roundOf fs X83 6 83 2 false f_laws_heldPacketS.l0.c) n p :=
  iter_of (l := fun n => fun (p : (List (Int × Int × Bool × Int × Int × Int × Bool × List Int)) × Int × Int × Int) => f_laws_heldPacketS.l0 n p.1 p.2.1 p.2.2.1 p.2.2.2) (fun _ => rfl) (fun n p => by kernel_rfl)
theorem E83 : ∀ x, funRun fs X83 6 83 C83 x = C83.fn x := fun x => by kernel_rfl
theorem B83 : ConB Try.prog 83 C83 := ConB.make FS MIX TY (cons := K83) (L := L83) (ptrs := Q83) ⟨S73, trivial⟩ trivial ⟨⟨⟨N, fun p => f_laws_heldPacketS.l0.ok N p⟩, trivial⟩, trivial⟩ rfl rfl E83
theorem S83 : ConS Try.prog 83 C83 := B83.call rfl
/-! laws.heldWorld: function 35 -/
noncomputable def f_laws_heldWorld (x0 : Int) (x1 : List (Int × (List (Int × List Int × Bool)) × (List (List Int × Int × List Bool × Bool × Int × Bool × Int × (List (Int × Bool)))) × (List (Int × (List (Int × Int × Bool × List Int)))) × List Int)) (x2 : List (Int × Int × Bool × Int × Int × Int × Bool × List Int)) (x3 : Int) : Option (Int) :=
  (f_laws_heldNodeS x1 x3).bind fun y340 =>
  bif (decide (y340 < (0 : Int))) then
    some (-1)
  else
    (f_laws_heldPacketS x2 y340).bind fun y341 =>
    bif (decide (y341 < (0 : Int))) then
      some (-1)
    else
      some y341
noncomputable def C35 : Con := ⟨[(.B, true, [(.int .i64), (.sl R7), (.sl R8)]), (.B, false, [(.int .i64)])], [(false, [(.int .i64)])], [(.int .i64), (.sl R7), (.sl R8), (.int .i64)], [(.int .i64)], fun (p : Int × (List (Int × (List (Int × List Int × Bool)) × (List (List Int × Int × List Bool × Bool × Int × Bool × Int × (List (Int × Bool)))) × (List (Int × (List (Int × Int × Bool × List Int)))) × List Int)) × (List (Int × Int × Bool × Int × Int × Int × Bool × List Int)) × Int) => f_laws_heldWorld p.1 p.2.1 p.2.2.1 p.2.2.2⟩
noncomputable abbrev K35 : Cons := [(82, C82), (83, C83)]
noncomputable abbrev L35 : List (Nat × Loops) := []
abbrev Q35 : List (Nat × List (Int × Nat) × Nat) := []
noncomputable abbrev X35 : Nat → Ctx := ctxOf tb K35 L35 Q35
theorem E35 : ∀ x, funRun fs X35 6 35 C35 x = C35.fn x := fun x => by kernel_rfl
theorem B35 : ConB Try.prog 35 C35 := ConB.make FS MIX TY (cons := K35) (L := L35) (ptrs := Q35) ⟨S82, S83, trivial⟩ trivial trivial rfl rfl E35
theorem S35 : ConS Try.prog 35 C35 := B35.call rfl
/-! laws.FnExactWorldNew: function 6 -/
noncomputable def f_laws_FnExactWorldNew (x0 : Int) : Option (Bool) :=
  (f_spec_WorldNew x0).bind fun y342 =>
  (f_impl_WorldNew x0).bind fun y343 =>
  (f_laws_eqWorld y343.1 y343.2.1 y343.2.2.1 y342.1 y342.2.1 y342.2.2.1).bind fun y344 =>
  bif (!y344) then
    some false
  else
    bif (!(y343.2.2.2 == y342.2.2.2)) then
      some false
    else
      (f_laws_markWorld y343.1 y343.2.1 y343.2.2.1 1).bind fun y345 =>
      (some (y345.2.1 : List (Int × (List (Int × List Int × Bool)) × (List (List Int × Int × List Bool × Bool × Int × Bool × Int × (List (Int × Bool)))) × (List (Int × (List (Int × Int × Bool × List Int)))) × List Int))).bind fun z346 =>
      (some (y345.2.2 : List (Int × Int × Bool × Int × Int × Int × Bool × List Int))).bind fun z347 =>
      (f_laws_heldWorld y343.1 z346 z347 1).bind fun y348 =>
      bif (decide (y348 < (0 : Int))) then
        some false
      else
        bif (!(decide (y348 = y345.1))) then
          some false
        else
          (f_impl_WorldNew x0).bind fun y349 =>
          (f_laws_eqWorld y349.1 y349.2.1 y349.2.2.1 y342.1 y342.2.1 y342.2.2.1).bind fun y350 =>
          bif (!y350) then
            some false
          else
            bif (!(y349.2.2.2 == y342.2.2.2)) then
              some false
            else
              (f_laws_heldWorld y343.1 z346 z347 1).bind fun y351 =>
              bif (decide (y351 < (0 : Int))) then
                some false
              else
                bif (!(decide (y351 = y345.1))) then
                  some false
                else
                  some true
noncomputable def C6 : Con := ⟨[(.B, false, [(.int .i64)])], [(false, [.bool])], [(.int .i64)], [.bool], fun (p : Int) => f_laws_FnExactWorldNew p⟩
noncomputable abbrev K6 : Cons := [(31, C31), (32, C32), (33, C33), (34, C34), (35, C35)]
noncomputable abbrev L6 : List (Nat × Loops) := []
abbrev Q6 : List (Nat × List (Int × Nat) × Nat) := []
noncomputable abbrev X6 : Nat → Ctx := ctxOf tb K6 L6 Q6
theorem E6 : ∀ x, funRun fs X6 6 6 C6 x = C6.fn x := fun x => by kernel_rfl
theorem B6 : ConB Try.prog 6 C6 := ConB.make FS MIX TY (cons := K6) (L := L6) (ptrs := Q6) ⟨S31, S32, S33, S34, S35, trivial⟩ trivial trivial rfl rfl E6
theorem S6 : ConS Try.prog 6 C6 := B6.call rfl
/-- What is left: the plain law. -/
def Pure : Prop := ∀ x : Tup [(.int .i64)], WfT [(.int .i64)] x → C6.fn x = some (true : Bool)
end
end Go.Abs
