import Derived.Test.YtimpkielhcgfdaaProg
import Derived.Test.YtimpkielhcgfdaaAbsD
import Derived.KernelRfl
namespace Go.Abs
open Go.Proofs
set_option linter.unusedVariables false
set_option maxRecDepth 100000
noncomputable section
abbrev N : Nat := 1152921504606846976
abbrev R0 : RT := .one (.int .i64)
abbrev R1 : RT := .one .bool
abbrev R2 : RT := .cons (.int .i64) (.one .bool)
abbrev R3 : RT := .cons (.int .i64) (.cons (.sl R0) (.one .bool))
abbrev R4 : RT := .cons (.sl R0) (.cons (.int .i64) (.cons (.sl R1) (.cons .bool (.cons (.int .i64) (.cons .bool (.cons (.int .i64) (.one (.sl R2))))))))
abbrev R5 : RT := .cons (.int .i64) (.cons (.int .i64) (.cons .bool (.one (.sl R0))))
abbrev R6 : RT := .cons (.int .i64) (.one (.sl R5))
noncomputable def tb : Tb := [(0, ⟨false, [], [], 0, 0⟩),
  (3, ⟨false, [(.int .i64)], [], 0, 8⟩),
  (4, ⟨false, [.bool], [], 0, 1⟩),
  (22, ⟨false, [(.sl R0)], [], 3, 24⟩),
  (37, ⟨false, [(.sl R5)], [], 51, 24⟩),
  (39, ⟨true, [(.int .i64), (.sl R5)], [(0, 3), (1, 37)], 0, 32⟩),
  (43, ⟨true, [(.int .i64)], [(0, 3)], 0, 8⟩),
  (51, ⟨true, [(.int .i64), (.int .i64), .bool, (.sl R0)], [(0, 3), (1, 3), (2, 4), (3, 22)], 0, 48⟩),
  (59, ⟨true, [(.int .i64), (.sl R0), .bool], [(0, 3), (1, 22), (2, 4)], 0, 40⟩),
  (106, ⟨false, [(.sl R3)], [], 59, 24⟩),
  (107, ⟨false, [(.sl R4)], [], 122, 24⟩),
  (108, ⟨false, [(.sl R6)], [], 39, 24⟩),
  (109, ⟨false, [(.sl R0)], [], 43, 24⟩),
  (111, ⟨true, [(.int .i64), (.sl R3), (.sl R4), (.sl R6), (.sl R0)], [(0, 3), (1, 106), (2, 107), (3, 108), (4, 109)], 0, 104⟩),
  (112, ⟨false, [], [], 0, 0⟩),
  (117, ⟨false, [(.sl R1)], [], 4, 24⟩),
  (119, ⟨true, [(.int .i64), .bool], [(0, 3), (1, 4)], 0, 16⟩),
  (120, ⟨false, [(.sl R2)], [], 119, 24⟩),
  (122, ⟨true, [(.sl R0), (.int .i64), (.sl R1), .bool, (.int .i64), .bool, (.int .i64), (.sl R2)], [(0, 22), (1, 3), (2, 117), (3, 4), (4, 119), (6, 3), (7, 120)], 0, 112⟩)]
noncomputable def fsL : List (Nat × Func) := [(97, Try.f97), (94, Try.f94), (80, Try.f80), (103, Try.f103), (142, Try.f142), (93, Try.f93), (81, Try.f81), (20, Try.f20), (189, Try.f189), (149, Try.f149), (208, Try.f208), (209, Try.f209), (210, Try.f210), (190, Try.f190), (150, Try.f150), (78, Try.f78), (145, Try.f145), (73, Try.f73), (151, Try.f151), (191, Try.f191), (152, Try.f152), (82, Try.f82), (22, Try.f22), (153, Try.f153), (192, Try.f192), (193, Try.f193), (154, Try.f154), (146, Try.f146), (155, Try.f155), (156, Try.f156), (83, Try.f83), (24, Try.f24), (157, Try.f157), (194, Try.f194), (195, Try.f195), (158, Try.f158), (147, Try.f147), (159, Try.f159), (160, Try.f160), (84, Try.f84), (13, Try.f13)]
noncomputable def fs : Nat → Option Func := getF fsL
theorem MIX : Try.prog.follows .mixedOrders = true := by kernel_rfl
theorem TY : tyCheck Try.prog tb = true := by kernel_rfl
theorem CAT : catCheck tb = true := by kernel_rfl
theorem FSP : FsP Try.prog fsL := ⟨Try.func97, Try.func94, Try.func80, Try.func103, Try.func142, Try.func93, Try.func81, Try.func20, Try.func189, Try.func149, Try.func208, Try.func209, Try.func210, Try.func190, Try.func150, Try.func78, Try.func145, Try.func73, Try.func151, Try.func191, Try.func152, Try.func82, Try.func22, Try.func153, Try.func192, Try.func193, Try.func154, Try.func146, Try.func155, Try.func156, Try.func83, Try.func24, Try.func157, Try.func194, Try.func195, Try.func158, Try.func147, Try.func159, Try.func160, Try.func84, Try.func13, trivial⟩
theorem FSC : (fsL.all fun p => fnChk p.2) = true := by kernel_rfl
theorem FS : FsS Try.prog fs := FsS.of FSP FSC
/-! spec.l1In: function 97 -/
noncomputable def f_spec_l1In (x0 : Int) (x1 : Int) (x2 : Int) : Option (Bool) :=
  bif (decide (x1 ≤ x0)) then
    some (decide (x0 ≤ x2))
  else
    some false
noncomputable def C97 : Con := ⟨[(.B, false, [(.int .i64)]), (.B, false, [(.int .i64)]), (.B, false, [(.int .i64)])], [(false, [.bool])], [(.int .i64), (.int .i64), (.int .i64)], [.bool], fun (p : Int × Int × Int) => f_spec_l1In p.1 p.2.1 p.2.2⟩
noncomputable abbrev K97 : Cons := []
noncomputable abbrev L97 : List (Nat × Loops) := []
abbrev Q97 : List (Nat × List (Int × Nat) × Nat) := []
noncomputable abbrev X97 : Nat → Ctx := ctxOf tb K97 L97 Q97
theorem E97 : ∀ x, funRun fs X97 6 97 C97 x = C97.fn x := fun x => by kernel_rfl
theorem B97 : ConB Try.prog 97 C97 := ConB.make FS MIX TY (cons := K97) (L := L97) (ptrs := Q97) trivial trivial trivial rfl rfl E97
theorem S97 : ConS Try.prog 97 C97 := B97.call rfl
/-! spec.HomeNew: function 94 -/
noncomputable def f_spec_HomeNew (x0 : Int) : Option (List Int × Int × List Bool × Bool × Int × Bool × Int × (List (Int × Bool))) :=
  (f_spec_l1In x0 1 4).bind fun y1 =>
  bif (!y1) then
    some ([], 0, [], false, 0, false, 0, [])
  else
    bif (decide ((0 : Int) ≤ x0) && Nat.ble x0.toNat 140737488355328) then
    some ((List.replicate 4 0), -1, (List.replicate x0.toNat false), false, 0, false, 0, [])
    else none
noncomputable def C94 : Con := ⟨[(.B, false, [(.int .i64)])], [(true, [(.sl R0), (.int .i64), (.sl R1), .bool, (.int .i64), .bool, (.int .i64), (.sl R2)])], [(.int .i64)], [(.sl R0), (.int .i64), (.sl R1), .bool, (.int .i64), .bool, (.int .i64), (.sl R2)], fun (p : Int) => f_spec_HomeNew p⟩
noncomputable abbrev K94 : Cons := [(97, C97)]
noncomputable abbrev L94 : List (Nat × Loops) := []
abbrev Q94 : List (Nat × List (Int × Nat) × Nat) := []
noncomputable abbrev X94 : Nat → Ctx := ctxOf tb K94 L94 Q94
theorem E94 : ∀ x, funRun fs X94 6 94 C94 x = C94.fn x := fun x => by kernel_rfl
theorem B94 : ConB Try.prog 94 C94 := ConB.make FS MIX TY (cons := K94) (L := L94) (ptrs := Q94) ⟨S97, trivial⟩ trivial trivial rfl rfl E94
theorem S94 : ConS Try.prog 94 C94 := B94.call rfl
/-! spec.NodeNew: function 80 -/
noncomputable def f_spec_NodeNew.l0 : Nat → Int → Bool → Int → Int → Int → (List (Int × List Int × Bool)) → (List (List Int × Int × List Bool × Bool × Int × Bool × Int × (List (Int × Bool)))) → (List (Int × (List (Int × Int × Bool × List Int)))) → (List Int) → (List (Int × List Int × Bool)) → (List (List Int × Int × List Bool × Bool × Int × Bool × Int × (List (Int × Bool)))) → (List (Int × (List (Int × Int × Bool × List Int)))) → (List Int) → Option (Bool × Int × Int × (List (Int × List Int × Bool)) × (List (List Int × Int × List Bool × Bool × Int × Bool × Int × (List (Int × Bool)))) × (List (Int × (List (Int × Int × Bool × List Int)))) × List Int × (List (Int × List Int × Bool)) × (List (List Int × Int × List Bool × Bool × Int × Bool × Int × (List (Int × Bool)))) × (List (Int × (List (Int × Int × Bool × List Int)))) × List Int)
  | 0, _, _, _, _, _, _, _, _, _, _, _, _, _ => none
  | n + 1, p4, p5, p6, p7, p8, p9, p10, p11, p12, p13, p14, p15, p16 =>
    bif (decide (p6 < (6 : Int))) then
      (f_spec_HomeNew p4).bind fun y17 =>
      bif (Nat.blt (p14.length + ([(y17.1, y17.2.1, y17.2.2.1, y17.2.2.2.1, y17.2.2.2.2.1, y17.2.2.2.2.2.1, y17.2.2.2.2.2.2.1, y17.2.2.2.2.2.2.2)] : List (List Int × Int × List Bool × Bool × Int × Bool × Int × (List (Int × Bool)))).length) 1256584717458) then
      (some ((p14 ++ ([(y17.1, y17.2.1, y17.2.2.1, y17.2.2.2.1, y17.2.2.2.2.1, y17.2.2.2.2.2.1, y17.2.2.2.2.2.2.1, y17.2.2.2.2.2.2.2)] : List (List Int × Int × List Bool × Bool × Int × Bool × Int × (List (Int × Bool))))) : List (List Int × Int × List Bool × Bool × Int × Bool × Int × (List (Int × Bool))))).bind fun z18 =>
      f_spec_NodeNew.l0 n p4 p5 (IntKind.wrap .i64 (p6 + (1 : Int))) p7 p8 p9 p10 p11 p12 p13 z18 p15 p16
      else none
    else
      some (p5, p7, p8, p9, p10, p11, p12, p13, p14, p15, p16)
noncomputable def f_spec_NodeNew (x0 : Int) (x1 : Int) : Option (Int × (List (Int × List Int × Bool)) × (List (List Int × Int × List Bool × Bool × Int × Bool × Int × (List (Int × Bool)))) × (List (Int × (List (Int × Int × Bool × List Int)))) × List Int × Bool) :=
  (f_spec_l1In x1 1 4).bind fun y2 =>
  bif (!y2) then
    some (0, [], [], [], [], false)
  else
    (f_spec_l1In x0 0 (IntKind.wrap .i64 (x1 - (1 : Int)))).bind fun y3 =>
    bif (!y3) then
      some (0, [], [], [], [], false)
    else
      bif (decide ((0 : Int) ≤ x1) && Nat.ble x1.toNat 4398046511104) then
      bif (decide ((0 : Int) ≤ x1) && Nat.ble x1.toNat 17592186044416) then
      (f_spec_NodeNew.l0 N x1 false 0 0 x0 ([] : List (Int × List Int × Bool)) ([] : List (List Int × Int × List Bool × Bool × Int × Bool × Int × (List (Int × Bool)))) ([] : List (Int × (List (Int × Int × Bool × List Int)))) ([] : List Int) (List.replicate 6 (0, [], false)) ([] : List (List Int × Int × List Bool × Bool × Int × Bool × Int × (List (Int × Bool)))) (List.replicate x1.toNat (0, [])) (List.replicate x1.toNat 0)).bind fun r19 =>
      some (r19.2.2.1, r19.2.2.2.2.2.2.2.1, r19.2.2.2.2.2.2.2.2.1, r19.2.2.2.2.2.2.2.2.2.1, r19.2.2.2.2.2.2.2.2.2.2, true)
      else none
      else none
noncomputable def C80 : Con := ⟨[(.B, false, [(.int .i64)]), (.B, false, [(.int .i64)])], [(true, [(.int .i64), (.sl R3), (.sl R4), (.sl R6), (.sl R0)]), (false, [.bool])], [(.int .i64), (.int .i64)], [(.int .i64), (.sl R3), (.sl R4), (.sl R6), (.sl R0), .bool], fun (p : Int × Int) => f_spec_NodeNew p.1 p.2⟩
noncomputable def f_spec_NodeNew.l0.c : LoopCon := ⟨1000, 6, [1, 4, 5, 6, 7], ⟨[(1, .int .i64 0), (4, .ptr 1000 0), (5, .bool false), (6, .ptr 1001 0), (7, .int .i64 0)], [(1000, .box [.int .i64 0, .ref 1002 [] none, .ref 1003 [] none, .ref 1004 [] none, .ref 1005 [] none]), (1001, .box [.int .i64 0, .ref 1006 [] none, .ref 1007 [] none, .ref 1008 [] none, .ref 1009 [] none]), (1002, .row R3 []), (1003, .row R4 []), (1004, .row R6 []), (1005, .row R0 []), (1006, .row R3 []), (1007, .row R4 []), (1008, .row R6 []), (1009, .row R0 [])], 1010⟩, [(.int .i64), .bool, (.int .i64), (.int .i64), (.int .i64), (.sl R3), (.sl R4), (.sl R6), (.sl R0), (.sl R3), (.sl R4), (.sl R6), (.sl R0)], [⟨.exit 0, [4, 5, 6], ⟨[(4, .ptr 1000 0), (5, .bool false), (6, .ptr 1001 0)], [(1000, .box [.int .i64 0, .ref 1002 [] none, .ref 1003 [] none, .ref 1004 [] none, .ref 1005 [] none]), (1001, .box [.int .i64 0, .ref 1006 [] none, .ref 1007 [] none, .ref 1008 [] none, .ref 1009 [] none]), (1002, .row R3 []), (1003, .row R4 []), (1004, .row R6 []), (1005, .row R0 []), (1006, .row R3 []), (1007, .row R4 []), (1008, .row R6 []), (1009, .row R0 [])], 1010⟩, [.bool, (.int .i64), (.int .i64), (.sl R3), (.sl R4), (.sl R6), (.sl R0), (.sl R3), (.sl R4), (.sl R6), (.sl R0)]⟩], fun (p : Int × Bool × Int × Int × Int × (List (Int × List Int × Bool)) × (List (List Int × Int × List Bool × Bool × Int × Bool × Int × (List (Int × Bool)))) × (List (Int × (List (Int × Int × Bool × List Int)))) × List Int × (List (Int × List Int × Bool)) × (List (List Int × Int × List Bool × Bool × Int × Bool × Int × (List (Int × Bool)))) × (List (Int × (List (Int × Int × Bool × List Int)))) × List Int) => f_spec_NodeNew.l0 N p.1 p.2.1 p.2.2.1 p.2.2.2.1 p.2.2.2.2.1 p.2.2.2.2.2.1 p.2.2.2.2.2.2.1 p.2.2.2.2.2.2.2.1 p.2.2.2.2.2.2.2.2.1 p.2.2.2.2.2.2.2.2.2.1 p.2.2.2.2.2.2.2.2.2.2.1 p.2.2.2.2.2.2.2.2.2.2.2.1 p.2.2.2.2.2.2.2.2.2.2.2.2⟩
noncomputable abbrev K80 : Cons := [(94, C94), (97, C97)]
noncomputable abbrev L80 : List (Nat × Loops) := [(80, [(5, f_spec_NodeNew.l0.c)])]
abbrev Q80 : List (Nat × List (Int × Nat) × Nat) := []
noncomputable abbrev X80 : Nat → Ctx := ctxOf tb K80 L80 Q80
theorem f_spec_NodeNew.l0.ok : ∀ n p, (fun (p : Int × Bool × Int × Int × Int × (List (Int × List Int × Bool)) × (List (List Int × Int × List Bool × Bool × Int × Bool × Int × (List (Int × Bool)))) × (List (Int × (List (Int × Int × Bool × List Int)))) × List Int × (List (Int × List Int × Bool)) × (List (List Int × Int × List Bool × Bool × Int × Bool × Int × (List (Int × Bool)))) × (List (Int × (List (Int × Int × Bool × List Int)))) × List Int) => f_spec_NodeNew.l0 n p.1 p.2.1 p.2.2.1 p.2.2.2.1 p.2.2.2.2.1 p.2.2.2.2.2.1 p.2.2.2.2.2.2.1 p.2.2.2.2.2.2.2.1 p.2.2.2.2.2.2.2.2.1 p.2.2.2.2.2.2.2.2.2.1 p.2.2.2.2.2.2.2.2.2.2.1 p.2.2.2.2.2.2.2.2.2.2.2.1 p.2.2.2.2.2.2.2.2.2.2.2.2) p = iterD (roundOf fs X80 6 80 5 false f_spec_NodeNew.l0.c) n p :=
  iter_of (l := fun n => fun (p : Int × Bool × Int × Int × Int × (List (Int × List Int × Bool)) × (List (List Int × Int × List Bool × Bool × Int × Bool × Int × (List (Int × Bool)))) × (List (Int × (List (Int × Int × Bool × List Int)))) × List Int × (List (Int × List Int × Bool)) × (List (List Int × Int × List Bool × Bool × Int × Bool × Int × (List (Int × Bool)))) × (List (Int × (List (Int × Int × Bool × List Int)))) × List Int) => f_spec_NodeNew.l0 n p.1 p.2.1 p.2.2.1 p.2.2.2.1 p.2.2.2.2.1 p.2.2.2.2.2.1 p.2.2.2.2.2.2.1 p.2.2.2.2.2.2.2.1 p.2.2.2.2.2.2.2.2.1 p.2.2.2.2.2.2.2.2.2.1 p.2.2.2.2.2.2.2.2.2.2.1 p.2.2.2.2.2.2.2.2.2.2.2.1 p.2.2.2.2.2.2.2.2.2.2.2.2) (fun _ => rfl) (fun n p => by kernel_rfl)
theorem E80 : ∀ x, funRun fs X80 6 80 C80 x = C80.fn x := fun x => by kernel_rfl
theorem B80 : ConB Try.prog 80 C80 := ConB.make FS MIX TY (cons := K80) (L := L80) (ptrs := Q80) ⟨S94, S97, trivial⟩ trivial ⟨⟨⟨N, fun p => f_spec_NodeNew.l0.ok N p⟩, trivial⟩, trivial⟩ rfl rfl E80
theorem S80 : ConS Try.prog 80 C80 := B80.call rfl
/-! impl.from: function 103 -/
noncomputable def f_impl_from (x0 : Int) (x1 : Int) (x2 : Int) : Option (Bool) :=
  bif (decide (x1 ≤ x0)) then
    some (decide (x0 ≤ x2))
  else
    some false
noncomputable def C103 : Con := ⟨[(.B, false, [(.int .i64)]), (.B, false, [(.int .i64)]), (.B, false, [(.int .i64)])], [(false, [.bool])], [(.int .i64), (.int .i64), (.int .i64)], [.bool], fun (p : Int × Int × Int) => f_impl_from p.1 p.2.1 p.2.2⟩
noncomputable abbrev K103 : Cons := []
noncomputable abbrev L103 : List (Nat × Loops) := []
abbrev Q103 : List (Nat × List (Int × Nat) × Nat) := []
noncomputable abbrev X103 : Nat → Ctx := ctxOf tb K103 L103 Q103
theorem E103 : ∀ x, funRun fs X103 6 103 C103 x = C103.fn x := fun x => by kernel_rfl
theorem B103 : ConB Try.prog 103 C103 := ConB.make FS MIX TY (cons := K103) (L := L103) (ptrs := Q103) trivial trivial trivial rfl rfl E103
theorem S103 : ConS Try.prog 103 C103 := B103.call rfl
/-! impl.isOf: function 142 -/
noncomputable def f_impl_isOf (x0 : Int) (x1 : Int) : Option (Bool) :=
  (f_impl_from x1 1 4).bind fun y20 =>
  bif y20 then
    (f_impl_from x0 0 (IntKind.wrap .i64 (x1 - (1 : Int)))).bind fun y21 =>
    some y21
  else
    some false
noncomputable def C142 : Con := ⟨[(.B, false, [(.int .i64)]), (.B, false, [(.int .i64)])], [(false, [.bool])], [(.int .i64), (.int .i64)], [.bool], fun (p : Int × Int) => f_impl_isOf p.1 p.2⟩
noncomputable abbrev K142 : Cons := [(103, C103)]
noncomputable abbrev L142 : List (Nat × Loops) := []
abbrev Q142 : List (Nat × List (Int × Nat) × Nat) := []
noncomputable abbrev X142 : Nat → Ctx := ctxOf tb K142 L142 Q142
theorem E142 : ∀ x, funRun fs X142 6 142 C142 x = C142.fn x := fun x => by kernel_rfl
theorem B142 : ConB Try.prog 142 C142 := ConB.make FS MIX TY (cons := K142) (L := L142) (ptrs := Q142) ⟨S103, trivial⟩ trivial trivial rfl rfl E142
theorem S142 : ConS Try.prog 142 C142 := B142.call rfl
/-! impl.HomeNew: function 93 -/
noncomputable def f_impl_HomeNew (x0 : Int) : Option (List Int × Int × List Bool × Bool × Int × Bool × Int × (List (Int × Bool))) :=
  (f_impl_from x0 1 4).bind fun y22 =>
  bif (!y22) then
    some ([], 0, [], false, 0, false, 0, [])
  else
    bif (decide ((0 : Int) ≤ x0) && Nat.ble x0.toNat 140737488355328) then
    some ((List.replicate 4 0), -1, (List.replicate x0.toNat false), false, 0, false, 0, [])
    else none
noncomputable def C93 : Con := ⟨[(.B, false, [(.int .i64)])], [(true, [(.sl R0), (.int .i64), (.sl R1), .bool, (.int .i64), .bool, (.int .i64), (.sl R2)])], [(.int .i64)], [(.sl R0), (.int .i64), (.sl R1), .bool, (.int .i64), .bool, (.int .i64), (.sl R2)], fun (p : Int) => f_impl_HomeNew p⟩
noncomputable abbrev K93 : Cons := [(103, C103)]
noncomputable abbrev L93 : List (Nat × Loops) := []
abbrev Q93 : List (Nat × List (Int × Nat) × Nat) := []
noncomputable abbrev X93 : Nat → Ctx := ctxOf tb K93 L93 Q93
theorem E93 : ∀ x, funRun fs X93 6 93 C93 x = C93.fn x := fun x => by kernel_rfl
theorem B93 : ConB Try.prog 93 C93 := ConB.make FS MIX TY (cons := K93) (L := L93) (ptrs := Q93) ⟨S103, trivial⟩ trivial trivial rfl rfl E93
theorem S93 : ConS Try.prog 93 C93 := B93.call rfl
/-! impl.NodeNew: function 81 -/
noncomputable def f_impl_NodeNew.l0 : Nat → Int → Bool → Int → Int → Int → (List (Int × List Int × Bool)) → (List (List Int × Int × List Bool × Bool × Int × Bool × Int × (List (Int × Bool)))) → (List (Int × (List (Int × Int × Bool × List Int)))) → (List Int) → (List (Int × List Int × Bool)) → (List (List Int × Int × List Bool × Bool × Int × Bool × Int × (List (Int × Bool)))) → (List (Int × (List (Int × Int × Bool × List Int)))) → (List Int) → Option (Bool × Int × Int × (List (Int × List Int × Bool)) × (List (List Int × Int × List Bool × Bool × Int × Bool × Int × (List (Int × Bool)))) × (List (Int × (List (Int × Int × Bool × List Int)))) × List Int × (List (Int × List Int × Bool)) × (List (List Int × Int × List Bool × Bool × Int × Bool × Int × (List (Int × Bool)))) × (List (Int × (List (Int × Int × Bool × List Int)))) × List Int)
  | 0, _, _, _, _, _, _, _, _, _, _, _, _, _ => none
  | n + 1, p24, p25, p26, p27, p28, p29, p30, p31, p32, p33, p34, p35, p36 =>
    bif (decide (p26 < (6 : Int))) then
      (f_impl_HomeNew p24).bind fun y37 =>
      bif (Nat.blt (p34.length + ([(y37.1, y37.2.1, y37.2.2.1, y37.2.2.2.1, y37.2.2.2.2.1, y37.2.2.2.2.2.1, y37.2.2.2.2.2.2.1, y37.2.2.2.2.2.2.2)] : List (List Int × Int × List Bool × Bool × Int × Bool × Int × (List (Int × Bool)))).length) 1256584717458) then
      (some ((p34 ++ ([(y37.1, y37.2.1, y37.2.2.1, y37.2.2.2.1, y37.2.2.2.2.1, y37.2.2.2.2.2.1, y37.2.2.2.2.2.2.1, y37.2.2.2.2.2.2.2)] : List (List Int × Int × List Bool × Bool × Int × Bool × Int × (List (Int × Bool))))) : List (List Int × Int × List Bool × Bool × Int × Bool × Int × (List (Int × Bool))))).bind fun z38 =>
      f_impl_NodeNew.l0 n p24 p25 (IntKind.wrap .i64 (p26 + (1 : Int))) p27 p28 p29 p30 p31 p32 p33 z38 p35 p36
      else none
    else
      some (p25, p27, p28, p29, p30, p31, p32, p33, p34, p35, p36)
noncomputable def f_impl_NodeNew (x0 : Int) (x1 : Int) : Option (Int × (List (Int × List Int × Bool)) × (List (List Int × Int × List Bool × Bool × Int × Bool × Int × (List (Int × Bool)))) × (List (Int × (List (Int × Int × Bool × List Int)))) × List Int × Bool) :=
  (f_impl_isOf x0 x1).bind fun y23 =>
  bif (!y23) then
    some (0, [], [], [], [], false)
  else
    bif (decide ((0 : Int) ≤ x1) && Nat.ble x1.toNat 4398046511104) then
    bif (decide ((0 : Int) ≤ x1) && Nat.ble x1.toNat 17592186044416) then
    (f_impl_NodeNew.l0 N x1 false 0 0 x0 ([] : List (Int × List Int × Bool)) ([] : List (List Int × Int × List Bool × Bool × Int × Bool × Int × (List (Int × Bool)))) ([] : List (Int × (List (Int × Int × Bool × List Int)))) ([] : List Int) (List.replicate 6 (0, [], false)) ([] : List (List Int × Int × List Bool × Bool × Int × Bool × Int × (List (Int × Bool)))) (List.replicate x1.toNat (0, [])) (List.replicate x1.toNat 0)).bind fun r39 =>
    some (r39.2.2.1, r39.2.2.2.2.2.2.2.1, r39.2.2.2.2.2.2.2.2.1, r39.2.2.2.2.2.2.2.2.2.1, r39.2.2.2.2.2.2.2.2.2.2, true)
    else none
    else none
noncomputable def C81 : Con := ⟨[(.B, false, [(.int .i64)]), (.B, false, [(.int .i64)])], [(true, [(.int .i64), (.sl R3), (.sl R4), (.sl R6), (.sl R0)]), (false, [.bool])], [(.int .i64), (.int .i64)], [(.int .i64), (.sl R3), (.sl R4), (.sl R6), (.sl R0), .bool], fun (p : Int × Int) => f_impl_NodeNew p.1 p.2⟩
noncomputable def f_impl_NodeNew.l0.c : LoopCon := ⟨1000, 6, [1, 4, 5, 6, 19], ⟨[(1, .int .i64 0), (4, .ptr 1000 0), (5, .bool false), (6, .ptr 1001 0), (19, .int .i64 0)], [(1000, .box [.int .i64 0, .ref 1002 [] none, .ref 1003 [] none, .ref 1004 [] none, .ref 1005 [] none]), (1001, .box [.int .i64 0, .ref 1006 [] none, .ref 1007 [] none, .ref 1008 [] none, .ref 1009 [] none]), (1002, .row R3 []), (1003, .row R4 []), (1004, .row R6 []), (1005, .row R0 []), (1006, .row R3 []), (1007, .row R4 []), (1008, .row R6 []), (1009, .row R0 [])], 1010⟩, [(.int .i64), .bool, (.int .i64), (.int .i64), (.int .i64), (.sl R3), (.sl R4), (.sl R6), (.sl R0), (.sl R3), (.sl R4), (.sl R6), (.sl R0)], [⟨.exit 0, [4, 5, 6], ⟨[(4, .ptr 1000 0), (5, .bool false), (6, .ptr 1001 0)], [(1000, .box [.int .i64 0, .ref 1002 [] none, .ref 1003 [] none, .ref 1004 [] none, .ref 1005 [] none]), (1001, .box [.int .i64 0, .ref 1006 [] none, .ref 1007 [] none, .ref 1008 [] none, .ref 1009 [] none]), (1002, .row R3 []), (1003, .row R4 []), (1004, .row R6 []), (1005, .row R0 []), (1006, .row R3 []), (1007, .row R4 []), (1008, .row R6 []), (1009, .row R0 [])], 1010⟩, [.bool, (.int .i64), (.int .i64), (.sl R3), (.sl R4), (.sl R6), (.sl R0), (.sl R3), (.sl R4), (.sl R6), (.sl R0)]⟩], fun (p : Int × Bool × Int × Int × Int × (List (Int × List Int × Bool)) × (List (List Int × Int × List Bool × Bool × Int × Bool × Int × (List (Int × Bool)))) × (List (Int × (List (Int × Int × Bool × List Int)))) × List Int × (List (Int × List Int × Bool)) × (List (List Int × Int × List Bool × Bool × Int × Bool × Int × (List (Int × Bool)))) × (List (Int × (List (Int × Int × Bool × List Int)))) × List Int) => f_impl_NodeNew.l0 N p.1 p.2.1 p.2.2.1 p.2.2.2.1 p.2.2.2.2.1 p.2.2.2.2.2.1 p.2.2.2.2.2.2.1 p.2.2.2.2.2.2.2.1 p.2.2.2.2.2.2.2.2.1 p.2.2.2.2.2.2.2.2.2.1 p.2.2.2.2.2.2.2.2.2.2.1 p.2.2.2.2.2.2.2.2.2.2.2.1 p.2.2.2.2.2.2.2.2.2.2.2.2⟩
noncomputable abbrev K81 : Cons := [(93, C93), (142, C142)]
noncomputable abbrev L81 : List (Nat × Loops) := [(81, [(5, f_impl_NodeNew.l0.c)])]
abbrev Q81 : List (Nat × List (Int × Nat) × Nat) := []
noncomputable abbrev X81 : Nat → Ctx := ctxOf tb K81 L81 Q81
theorem f_impl_NodeNew.l0.ok : ∀ n p, (fun (p : Int × Bool × Int × Int × Int × (List (Int × List Int × Bool)) × (List (List Int × Int × List Bool × Bool × Int × Bool × Int × (List (Int × Bool)))) × (List (Int × (List (Int × Int × Bool × List Int)))) × List Int × (List (Int × List Int × Bool)) × (List (List Int × Int × List Bool × Bool × Int × Bool × Int × (List (Int × Bool)))) × (List (Int × (List (Int × Int × Bool × List Int)))) × List Int) => f_impl_NodeNew.l0 n p.1 p.2.1 p.2.2.1 p.2.2.2.1 p.2.2.2.2.1 p.2.2.2.2.2.1 p.2.2.2.2.2.2.1 p.2.2.2.2.2.2.2.1 p.2.2.2.2.2.2.2.2.1 p.2.2.2.2.2.2.2.2.2.1 p.2.2.2.2.2.2.2.2.2.2.1 p.2.2.2.2.2.2.2.2.2.2.2.1 p.2.2.2.2.2.2.2.2.2.2.2.2) p = iterD (roundOf fs X81 6 81 5 false f_impl_NodeNew.l0.c) n p :=
  iter_of (l := fun n => fun (p : Int × Bool × Int × Int × Int × (List (Int × List Int × Bool)) × (List (List Int × Int × List Bool × Bool × Int × Bool × Int × (List (Int × Bool)))) × (List (Int × (List (Int × Int × Bool × List Int)))) × List Int × (List (Int × List Int × Bool)) × (List (List Int × Int × List Bool × Bool × Int × Bool × Int × (List (Int × Bool)))) × (List (Int × (List (Int × Int × Bool × List Int)))) × List Int) => f_impl_NodeNew.l0 n p.1 p.2.1 p.2.2.1 p.2.2.2.1 p.2.2.2.2.1 p.2.2.2.2.2.1 p.2.2.2.2.2.2.1 p.2.2.2.2.2.2.2.1 p.2.2.2.2.2.2.2.2.1 p.2.2.2.2.2.2.2.2.2.1 p.2.2.2.2.2.2.2.2.2.2.1 p.2.2.2.2.2.2.2.2.2.2.2.1 p.2.2.2.2.2.2.2.2.2.2.2.2) (fun _ => rfl) (fun n p => by kernel_rfl)
theorem E81 : ∀ x, funRun fs X81 6 81 C81 x = C81.fn x := fun x => by kernel_rfl
theorem B81 : ConB Try.prog 81 C81 := ConB.make FS MIX TY (cons := K81) (L := L81) (ptrs := Q81) ⟨S93, S142, trivial⟩ trivial ⟨⟨⟨N, fun p => f_impl_NodeNew.l0.ok N p⟩, trivial⟩, trivial⟩ rfl rfl E81
theorem S81 : ConS Try.prog 81 C81 := B81.call rfl
/-! laws.eqIntS: function 20 -/
noncomputable def f_laws_eqIntS.l0 : Nat → (List Int) → (List Int) → Bool → Int → Option ((Bool) ⊕ (Bool))
  | 0, _, _, _, _ => none
  | n + 1, p40, p41, p42, p43 =>
    bif (decide (p43 < (p40.length : Int))) then
      bif ((decide ((0 : Int) ≤ p43)) && (decide (p43 < (p40.length : Int)))) then
      bif ((decide ((0 : Int) ≤ p43)) && (decide (p43 < (p41.length : Int)))) then
      bif (!(decide ((p40.getD p43.toNat 0) = (p41.getD p43.toNat 0)))) then
        some (.inl false)
      else
        f_laws_eqIntS.l0 n p40 p41 p42 (IntKind.wrap .i64 (p43 + (1 : Int)))
      else none
      else none
    else
      some (.inr p42)
noncomputable def f_laws_eqIntS (x0 : List Int) (x1 : List Int) : Option (Bool) :=
  bif (!(decide ((x0.length : Int) = (x1.length : Int)))) then
    some false
  else
    (f_laws_eqIntS.l0 N x0 x1 false 0).bind fun r44 =>
    cs r44 (fun a45 =>
      some a45) (fun b46 =>
      some true)
noncomputable def C20 : Con := ⟨[(.B, false, [(.sl R0)]), (.B, false, [(.sl R0)])], [(false, [.bool])], [(.sl R0), (.sl R0)], [.bool], fun (p : List Int × List Int) => f_laws_eqIntS p.1 p.2⟩
noncomputable def f_laws_eqIntS.l0.c : LoopCon := ⟨1000, 6, [0, 1, 4, 5], ⟨[(0, .bor none R0 []), (1, .bor none R0 []), (4, .bool false), (5, .int .i64 0)], [], 1000⟩, [(.sl R0), (.sl R0), .bool, (.int .i64)], [⟨.ret, [4], ⟨[(4, .bool false)], [], 1000⟩, [.bool]⟩, ⟨.exit 0, [4], ⟨[(4, .bool false)], [], 1000⟩, [.bool]⟩], fun (p : List Int × List Int × Bool × Int) => f_laws_eqIntS.l0 N p.1 p.2.1 p.2.2.1 p.2.2.2⟩
noncomputable abbrev K20 : Cons := []
noncomputable abbrev L20 : List (Nat × Loops) := [(20, [(4, f_laws_eqIntS.l0.c)])]
abbrev Q20 : List (Nat × List (Int × Nat) × Nat) := []
noncomputable abbrev X20 : Nat → Ctx := ctxOf tb K20 L20 Q20
theorem f_laws_eqIntS.l0.ok : ∀ n p, (fun (p : List Int × List Int × Bool × Int) => f_laws_eqIntS.l0 n p.1 p.2.1 p.2.2.1 p.2.2.2) p = iterD (roundOf fs X20 6 20 4 false f_laws_eqIntS.l0.c) n p :=
  iter_of (l := fun n => fun (p : List Int × List Int × Bool × Int) => f_laws_eqIntS.l0 n p.1 p.2.1 p.2.2.1 p.2.2.2) (fun _ => rfl) (fun n p => by kernel_rfl)
theorem E20 : ∀ x, funRun fs X20 6 20 C20 x = C20.fn x := fun x => by kernel_rfl
theorem B20 : ConB Try.prog 20 C20 := ConB.make FS MIX TY (cons := K20) (L := L20) (ptrs := Q20) trivial trivial ⟨⟨⟨N, fun p => f_laws_eqIntS.l0.ok N p⟩, trivial⟩, trivial⟩ rfl rfl E20
theorem S20 : ConS Try.prog 20 C20 := B20.call rfl
/-! laws.eqFrame: function 189 -/
noncomputable def f_laws_eqFrame (x0 : Int) (x1 : List Int) (x2 : Bool) (x3 : Int) (x4 : List Int) (x5 : Bool) : Option (Bool) :=
  bif (!(decide (x0 = x3))) then
    some false
  else
    (f_laws_eqIntS x1 x4).bind fun y47 =>
    bif (!y47) then
      some false
    else
      bif (!(x2 == x5)) then
        some false
      else
        some true
noncomputable def C189 : Con := ⟨[(.B, true, [(.int .i64), (.sl R0), .bool]), (.B, true, [(.int .i64), (.sl R0), .bool])], [(false, [.bool])], [(.int .i64), (.sl R0), .bool, (.int .i64), (.sl R0), .bool], [.bool], fun (p : Int × List Int × Bool × Int × List Int × Bool) => f_laws_eqFrame p.1 p.2.1 p.2.2.1 p.2.2.2.1 p.2.2.2.2.1 p.2.2.2.2.2⟩
noncomputable abbrev K189 : Cons := [(20, C20)]
noncomputable abbrev L189 : List (Nat × Loops) := []
abbrev Q189 : List (Nat × List (Int × Nat) × Nat) := []
noncomputable abbrev X189 : Nat → Ctx := ctxOf tb K189 L189 Q189
theorem E189 : ∀ x, funRun fs X189 6 189 C189 x = C189.fn x := fun x => by kernel_rfl
theorem B189 : ConB Try.prog 189 C189 := ConB.make FS MIX TY (cons := K189) (L := L189) (ptrs := Q189) ⟨S20, trivial⟩ trivial trivial rfl rfl E189
theorem S189 : ConS Try.prog 189 C189 := B189.call rfl
/-! laws.eqFrameS: function 149 -/
noncomputable def f_laws_eqFrameS.l0 : Nat → (List (Int × List Int × Bool)) → (List (Int × List Int × Bool)) → Bool → Int → Option ((Bool) ⊕ (Bool))
  | 0, _, _, _, _ => none
  | n + 1, p48, p49, p50, p51 =>
    bif (decide (p51 < (p48.length : Int))) then
      bif ((decide ((0 : Int) ≤ p51)) && (decide (p51 < (p48.length : Int)))) then
      bif ((decide ((0 : Int) ≤ p51)) && (decide (p51 < (p49.length : Int)))) then
      (f_laws_eqFrame ((p48.getD p51.toNat (0, [], false)).1) ((p48.getD p51.toNat (0, [], false)).2.1) ((p48.getD p51.toNat (0, [], false)).2.2) ((p49.getD p51.toNat (0, [], false)).1) ((p49.getD p51.toNat (0, [], false)).2.1) ((p49.getD p51.toNat (0, [], false)).2.2)).bind fun y52 =>
      bif (!y52) then
        some (.inl false)
      else
        f_laws_eqFrameS.l0 n p48 p49 p50 (IntKind.wrap .i64 (p51 + (1 : Int)))
      else none
      else none
    else
      some (.inr p50)
noncomputable def f_laws_eqFrameS (x0 : List (Int × List Int × Bool)) (x1 : List (Int × List Int × Bool)) : Option (Bool) :=
  bif (!(decide ((x0.length : Int) = (x1.length : Int)))) then
    some false
  else
    (f_laws_eqFrameS.l0 N x0 x1 false 0).bind fun r53 =>
    cs r53 (fun a54 =>
      some a54) (fun b55 =>
      some true)
noncomputable def C149 : Con := ⟨[(.B, false, [(.sl R3)]), (.B, false, [(.sl R3)])], [(false, [.bool])], [(.sl R3), (.sl R3)], [.bool], fun (p : (List (Int × List Int × Bool)) × (List (Int × List Int × Bool))) => f_laws_eqFrameS p.1 p.2⟩
noncomputable def f_laws_eqFrameS.l0.c : LoopCon := ⟨1000, 6, [0, 1, 4, 5], ⟨[(0, .bor none R3 []), (1, .bor none R3 []), (4, .bool false), (5, .int .i64 0)], [], 1000⟩, [(.sl R3), (.sl R3), .bool, (.int .i64)], [⟨.ret, [4], ⟨[(4, .bool false)], [], 1000⟩, [.bool]⟩, ⟨.exit 0, [4], ⟨[(4, .bool false)], [], 1000⟩, [.bool]⟩], fun (p : (List (Int × List Int × Bool)) × (List (Int × List Int × Bool)) × Bool × Int) => f_laws_eqFrameS.l0 N p.1 p.2.1 p.2.2.1 p.2.2.2⟩
noncomputable abbrev K149 : Cons := [(189, C189)]
noncomputable abbrev L149 : List (Nat × Loops) := [(149, [(4, f_laws_eqFrameS.l0.c)])]
abbrev Q149 : List (Nat × List (Int × Nat) × Nat) := []
noncomputable abbrev X149 : Nat → Ctx := ctxOf tb K149 L149 Q149
theorem f_laws_eqFrameS.l0.ok : ∀ n p, (fun (p : (List (Int × List Int × Bool)) × (List (Int × List Int × Bool)) × Bool × Int) => f_laws_eqFrameS.l0 n p.1 p.2.1 p.2.2.1 p.2.2.2) p = iterD (roundOf fs X149 6 149 4 false f_laws_eqFrameS.l0.c) n p :=
  iter_of (l := fun n => fun (p : (List (Int × List Int × Bool)) × (List (Int × List Int × Bool)) × Bool × Int) => f_laws_eqFrameS.l0 n p.1 p.2.1 p.2.2.1 p.2.2.2) (fun _ => rfl) (fun n p => by kernel_rfl)
theorem E149 : ∀ x, funRun fs X149 6 149 C149 x = C149.fn x := fun x => by kernel_rfl
theorem B149 : ConB Try.prog 149 C149 := ConB.make FS MIX TY (cons := K149) (L := L149) (ptrs := Q149) ⟨S189, trivial⟩ trivial ⟨⟨⟨N, fun p => f_laws_eqFrameS.l0.ok N p⟩, trivial⟩, trivial⟩ rfl rfl E149
theorem S149 : ConS Try.prog 149 C149 := B149.call rfl
/-! laws.eqBoolS: function 208 -/
noncomputable def f_laws_eqBoolS.l0 : Nat → (List Bool) → (List Bool) → Bool → Int → Option ((Bool) ⊕ (Bool))
  | 0, _, _, _, _ => none
  | n + 1, p56, p57, p58, p59 =>
    bif (decide (p59 < (p56.length : Int))) then
      bif ((decide ((0 : Int) ≤ p59)) && (decide (p59 < (p56.length : Int)))) then
      bif ((decide ((0 : Int) ≤ p59)) && (decide (p59 < (p57.length : Int)))) then
      bif (!((p56.getD p59.toNat false) == (p57.getD p59.toNat false))) then
        some (.inl false)
      else
        f_laws_eqBoolS.l0 n p56 p57 p58 (IntKind.wrap .i64 (p59 + (1 : Int)))
      else none
      else none
    else
      some (.inr p58)
noncomputable def f_laws_eqBoolS (x0 : List Bool) (x1 : List Bool) : Option (Bool) :=
  bif (!(decide ((x0.length : Int) = (x1.length : Int)))) then
    some false
  else
    (f_laws_eqBoolS.l0 N x0 x1 false 0).bind fun r60 =>
    cs r60 (fun a61 =>
      some a61) (fun b62 =>
      some true)
noncomputable def C208 : Con := ⟨[(.B, false, [(.sl R1)]), (.B, false, [(.sl R1)])], [(false, [.bool])], [(.sl R1), (.sl R1)], [.bool], fun (p : List Bool × List Bool) => f_laws_eqBoolS p.1 p.2⟩
noncomputable def f_laws_eqBoolS.l0.c : LoopCon := ⟨1000, 6, [0, 1, 4, 5], ⟨[(0, .bor none R1 []), (1, .bor none R1 []), (4, .bool false), (5, .int .i64 0)], [], 1000⟩, [(.sl R1), (.sl R1), .bool, (.int .i64)], [⟨.ret, [4], ⟨[(4, .bool false)], [], 1000⟩, [.bool]⟩, ⟨.exit 0, [4], ⟨[(4, .bool false)], [], 1000⟩, [.bool]⟩], fun (p : List Bool × List Bool × Bool × Int) => f_laws_eqBoolS.l0 N p.1 p.2.1 p.2.2.1 p.2.2.2⟩
noncomputable abbrev K208 : Cons := []
noncomputable abbrev L208 : List (Nat × Loops) := [(208, [(4, f_laws_eqBoolS.l0.c)])]
abbrev Q208 : List (Nat × List (Int × Nat) × Nat) := []
noncomputable abbrev X208 : Nat → Ctx := ctxOf tb K208 L208 Q208
theorem f_laws_eqBoolS.l0.ok : ∀ n p, (fun (p : List Bool × List Bool × Bool × Int) => f_laws_eqBoolS.l0 n p.1 p.2.1 p.2.2.1 p.2.2.2) p = iterD (roundOf fs X208 6 208 4 false f_laws_eqBoolS.l0.c) n p :=
  iter_of (l := fun n => fun (p : List Bool × List Bool × Bool × Int) => f_laws_eqBoolS.l0 n p.1 p.2.1 p.2.2.1 p.2.2.2) (fun _ => rfl) (fun n p => by kernel_rfl)
theorem E208 : ∀ x, funRun fs X208 6 208 C208 x = C208.fn x := fun x => by kernel_rfl
theorem B208 : ConB Try.prog 208 C208 := ConB.make FS MIX TY (cons := K208) (L := L208) (ptrs := Q208) trivial trivial ⟨⟨⟨N, fun p => f_laws_eqBoolS.l0.ok N p⟩, trivial⟩, trivial⟩ rfl rfl E208
theorem S208 : ConS Try.prog 208 C208 := B208.call rfl
/-! laws.eqWait: function 209 -/
noncomputable def f_laws_eqWait (x0 : Int) (x1 : Bool) (x2 : Int) (x3 : Bool) : Option (Bool) :=
  bif (!(decide (x0 = x2))) then
    some false
  else
    bif (!(x1 == x3)) then
      some false
    else
      some true
noncomputable def C209 : Con := ⟨[(.B, true, [(.int .i64), .bool]), (.B, true, [(.int .i64), .bool])], [(false, [.bool])], [(.int .i64), .bool, (.int .i64), .bool], [.bool], fun (p : Int × Bool × Int × Bool) => f_laws_eqWait p.1 p.2.1 p.2.2.1 p.2.2.2⟩
noncomputable abbrev K209 : Cons := []
noncomputable abbrev L209 : List (Nat × Loops) := []
abbrev Q209 : List (Nat × List (Int × Nat) × Nat) := []
noncomputable abbrev X209 : Nat → Ctx := ctxOf tb K209 L209 Q209
theorem E209 : ∀ x, funRun fs X209 6 209 C209 x = C209.fn x := fun x => by kernel_rfl
theorem B209 : ConB Try.prog 209 C209 := ConB.make FS MIX TY (cons := K209) (L := L209) (ptrs := Q209) trivial trivial trivial rfl rfl E209
theorem S209 : ConS Try.prog 209 C209 := B209.call rfl
/-! laws.eqWaitS: function 210 -/
noncomputable def f_laws_eqWaitS.l0 : Nat → (List (Int × Bool)) → (List (Int × Bool)) → Bool → Int → Option ((Bool) ⊕ (Bool))
  | 0, _, _, _, _ => none
  | n + 1, p63, p64, p65, p66 =>
    bif (decide (p66 < (p63.length : Int))) then
      bif ((decide ((0 : Int) ≤ p66)) && (decide (p66 < (p63.length : Int)))) then
      bif ((decide ((0 : Int) ≤ p66)) && (decide (p66 < (p64.length : Int)))) then
      (f_laws_eqWait ((p63.getD p66.toNat (0, false)).1) ((p63.getD p66.toNat (0, false)).2) ((p64.getD p66.toNat (0, false)).1) ((p64.getD p66.toNat (0, false)).2)).bind fun y67 =>
      bif (!y67) then
        some (.inl false)
      else
        f_laws_eqWaitS.l0 n p63 p64 p65 (IntKind.wrap .i64 (p66 + (1 : Int)))
      else none
      else none
    else
      some (.inr p65)
noncomputable def f_laws_eqWaitS (x0 : List (Int × Bool)) (x1 : List (Int × Bool)) : Option (Bool) :=
  bif (!(decide ((x0.length : Int) = (x1.length : Int)))) then
    some false
  else
    (f_laws_eqWaitS.l0 N x0 x1 false 0).bind fun r68 =>
    cs r68 (fun a69 =>
      some a69) (fun b70 =>
      some true)
noncomputable def C210 : Con := ⟨[(.B, false, [(.sl R2)]), (.B, false, [(.sl R2)])], [(false, [.bool])], [(.sl R2), (.sl R2)], [.bool], fun (p : (List (Int × Bool)) × (List (Int × Bool))) => f_laws_eqWaitS p.1 p.2⟩
noncomputable def f_laws_eqWaitS.l0.c : LoopCon := ⟨1000, 6, [0, 1, 4, 5], ⟨[(0, .bor none R2 []), (1, .bor none R2 []), (4, .bool false), (5, .int .i64 0)], [], 1000⟩, [(.sl R2), (.sl R2), .bool, (.int .i64)], [⟨.ret, [4], ⟨[(4, .bool false)], [], 1000⟩, [.bool]⟩, ⟨.exit 0, [4], ⟨[(4, .bool false)], [], 1000⟩, [.bool]⟩], fun (p : (List (Int × Bool)) × (List (Int × Bool)) × Bool × Int) => f_laws_eqWaitS.l0 N p.1 p.2.1 p.2.2.1 p.2.2.2⟩
noncomputable abbrev K210 : Cons := [(209, C209)]
noncomputable abbrev L210 : List (Nat × Loops) := [(210, [(4, f_laws_eqWaitS.l0.c)])]
abbrev Q210 : List (Nat × List (Int × Nat) × Nat) := []
noncomputable abbrev X210 : Nat → Ctx := ctxOf tb K210 L210 Q210
theorem f_laws_eqWaitS.l0.ok : ∀ n p, (fun (p : (List (Int × Bool)) × (List (Int × Bool)) × Bool × Int) => f_laws_eqWaitS.l0 n p.1 p.2.1 p.2.2.1 p.2.2.2) p = iterD (roundOf fs X210 6 210 4 false f_laws_eqWaitS.l0.c) n p :=
  iter_of (l := fun n => fun (p : (List (Int × Bool)) × (List (Int × Bool)) × Bool × Int) => f_laws_eqWaitS.l0 n p.1 p.2.1 p.2.2.1 p.2.2.2) (fun _ => rfl) (fun n p => by kernel_rfl)
theorem E210 : ∀ x, funRun fs X210 6 210 C210 x = C210.fn x := fun x => by kernel_rfl
theorem B210 : ConB Try.prog 210 C210 := ConB.make FS MIX TY (cons := K210) (L := L210) (ptrs := Q210) ⟨S209, trivial⟩ trivial ⟨⟨⟨N, fun p => f_laws_eqWaitS.l0.ok N p⟩, trivial⟩, trivial⟩ rfl rfl E210
theorem S210 : ConS Try.prog 210 C210 := B210.call rfl
/-! laws.eqHome: function 190 -/
noncomputable def f_laws_eqHome (x0 : List Int) (x1 : Int) (x2 : List Bool) (x3 : Bool) (x4 : Int) (x5 : Bool) (x6 : Int) (x7 : List (Int × Bool)) (x8 : List Int) (x9 : Int) (x10 : List Bool) (x11 : Bool) (x12 : Int) (x13 : Bool) (x14 : Int) (x15 : List (Int × Bool)) : Option (Bool) :=
  (f_laws_eqIntS x0 x8).bind fun y71 =>
  bif (!y71) then
    some false
  else
    bif (!(decide (x1 = x9))) then
      some false
    else
      (f_laws_eqBoolS x2 x10).bind fun y72 =>
      bif (!y72) then
        some false
      else
        bif (!(x3 == x11)) then
          some false
        else
          (f_laws_eqWait x4 x5 x12 x13).bind fun y73 =>
          bif (!y73) then
            some false
          else
            bif (!(decide (x6 = x14))) then
              some false
            else
              (f_laws_eqWaitS x7 x15).bind fun y74 =>
              bif (!y74) then
                some false
              else
                some true
noncomputable def C190 : Con := ⟨[(.B, true, [(.sl R0), (.int .i64), (.sl R1), .bool, (.int .i64), .bool, (.int .i64), (.sl R2)]), (.B, true, [(.sl R0), (.int .i64), (.sl R1), .bool, (.int .i64), .bool, (.int .i64), (.sl R2)])], [(false, [.bool])], [(.sl R0), (.int .i64), (.sl R1), .bool, (.int .i64), .bool, (.int .i64), (.sl R2), (.sl R0), (.int .i64), (.sl R1), .bool, (.int .i64), .bool, (.int .i64), (.sl R2)], [.bool], fun (p : List Int × Int × List Bool × Bool × Int × Bool × Int × (List (Int × Bool)) × List Int × Int × List Bool × Bool × Int × Bool × Int × (List (Int × Bool))) => f_laws_eqHome p.1 p.2.1 p.2.2.1 p.2.2.2.1 p.2.2.2.2.1 p.2.2.2.2.2.1 p.2.2.2.2.2.2.1 p.2.2.2.2.2.2.2.1 p.2.2.2.2.2.2.2.2.1 p.2.2.2.2.2.2.2.2.2.1 p.2.2.2.2.2.2.2.2.2.2.1 p.2.2.2.2.2.2.2.2.2.2.2.1 p.2.2.2.2.2.2.2.2.2.2.2.2.1 p.2.2.2.2.2.2.2.2.2.2.2.2.2.1 p.2.2.2.2.2.2.2.2.2.2.2.2.2.2.1 p.2.2.2.2.2.2.2.2.2.2.2.2.2.2.2⟩
noncomputable abbrev K190 : Cons := [(20, C20), (208, C208), (209, C209), (210, C210)]
noncomputable abbrev L190 : List (Nat × Loops) := []
abbrev Q190 : List (Nat × List (Int × Nat) × Nat) := []
noncomputable abbrev X190 : Nat → Ctx := ctxOf tb K190 L190 Q190
theorem E190 : ∀ x, funRun fs X190 6 190 C190 x = C190.fn x := fun x => by kernel_rfl
theorem B190 : ConB Try.prog 190 C190 := ConB.make FS MIX TY (cons := K190) (L := L190) (ptrs := Q190) ⟨S20, S208, S209, S210, trivial⟩ trivial trivial rfl rfl E190
theorem S190 : ConS Try.prog 190 C190 := B190.call rfl
/-! laws.eqHomeS: function 150 -/
noncomputable def f_laws_eqHomeS.l0 : Nat → (List (List Int × Int × List Bool × Bool × Int × Bool × Int × (List (Int × Bool)))) → (List (List Int × Int × List Bool × Bool × Int × Bool × Int × (List (Int × Bool)))) → Bool → Int → Option ((Bool) ⊕ (Bool))
  | 0, _, _, _, _ => none
  | n + 1, p75, p76, p77, p78 =>
    bif (decide (p78 < (p75.length : Int))) then
      bif ((decide ((0 : Int) ≤ p78)) && (decide (p78 < (p75.length : Int)))) then
      bif ((decide ((0 : Int) ≤ p78)) && (decide (p78 < (p76.length : Int)))) then
      (f_laws_eqHome ((p75.getD p78.toNat ([], 0, [], false, 0, false, 0, [])).1) ((p75.getD p78.toNat ([], 0, [], false, 0, false, 0, [])).2.1) ((p75.getD p78.toNat ([], 0, [], false, 0, false, 0, [])).2.2.1) ((p75.getD p78.toNat ([], 0, [], false, 0, false, 0, [])).2.2.2.1) ((p75.getD p78.toNat ([], 0, [], false, 0, false, 0, [])).2.2.2.2.1) ((p75.getD p78.toNat ([], 0, [], false, 0, false, 0, [])).2.2.2.2.2.1) ((p75.getD p78.toNat ([], 0, [], false, 0, false, 0, [])).2.2.2.2.2.2.1) ((p75.getD p78.toNat ([], 0, [], false, 0, false, 0, [])).2.2.2.2.2.2.2) ((p76.getD p78.toNat ([], 0, [], false, 0, false, 0, [])).1) ((p76.getD p78.toNat ([], 0, [], false, 0, false, 0, [])).2.1) ((p76.getD p78.toNat ([], 0, [], false, 0, false, 0, [])).2.2.1) ((p76.getD p78.toNat ([], 0, [], false, 0, false, 0, [])).2.2.2.1) ((p76.getD p78.toNat ([], 0, [], false, 0, false, 0, [])).2.2.2.2.1) ((p76.getD p78.toNat ([], 0, [], false, 0, false, 0, [])).2.2.2.2.2.1) ((p76.getD p78.toNat ([], 0, [], false, 0, false, 0, [])).2.2.2.2.2.2.1) ((p76.getD p78.toNat ([], 0, [], false, 0, false, 0, [])).2.2.2.2.2.2.2)).bind fun y79 =>
      bif (!y79) then
        some (.inl false)
      else
        f_laws_eqHomeS.l0 n p75 p76 p77 (IntKind.wrap .i64 (p78 + (1 : Int)))
      else none
      else none
    else
      some (.inr p77)
noncomputable def f_laws_eqHomeS (x0 : List (List Int × Int × List Bool × Bool × Int × Bool × Int × (List (Int × Bool)))) (x1 : List (List Int × Int × List Bool × Bool × Int × Bool × Int × (List (Int × Bool)))) : Option (Bool) :=
  bif (!(decide ((x0.length : Int) = (x1.length : Int)))) then
    some false
  else
    (f_laws_eqHomeS.l0 N x0 x1 false 0).bind fun r80 =>
    cs r80 (fun a81 =>
      some a81) (fun b82 =>
      some true)
noncomputable def C150 : Con := ⟨[(.B, false, [(.sl R4)]), (.B, false, [(.sl R4)])], [(false, [.bool])], [(.sl R4), (.sl R4)], [.bool], fun (p : (List (List Int × Int × List Bool × Bool × Int × Bool × Int × (List (Int × Bool)))) × (List (List Int × Int × List Bool × Bool × Int × Bool × Int × (List (Int × Bool))))) => f_laws_eqHomeS p.1 p.2⟩
noncomputable def f_laws_eqHomeS.l0.c : LoopCon := ⟨1000, 6, [0, 1, 4, 5], ⟨[(0, .bor none R4 []), (1, .bor none R4 []), (4, .bool false), (5, .int .i64 0)], [], 1000⟩, [(.sl R4), (.sl R4), .bool, (.int .i64)], [⟨.ret, [4], ⟨[(4, .bool false)], [], 1000⟩, [.bool]⟩, ⟨.exit 0, [4], ⟨[(4, .bool false)], [], 1000⟩, [.bool]⟩], fun (p : (List (List Int × Int × List Bool × Bool × Int × Bool × Int × (List (Int × Bool)))) × (List (List Int × Int × List Bool × Bool × Int × Bool × Int × (List (Int × Bool)))) × Bool × Int) => f_laws_eqHomeS.l0 N p.1 p.2.1 p.2.2.1 p.2.2.2⟩
noncomputable abbrev K150 : Cons := [(190, C190)]
noncomputable abbrev L150 : List (Nat × Loops) := [(150, [(4, f_laws_eqHomeS.l0.c)])]
abbrev Q150 : List (Nat × List (Int × Nat) × Nat) := []
noncomputable abbrev X150 : Nat → Ctx := ctxOf tb K150 L150 Q150
theorem f_laws_eqHomeS.l0.ok : ∀ n p, (fun (p : (List (List Int × Int × List Bool × Bool × Int × Bool × Int × (List (Int × Bool)))) × (List (List Int × Int × List Bool × Bool × Int × Bool × Int × (List (Int × Bool)))) × Bool × Int) => f_laws_eqHomeS.l0 n p.1 p.2.1 p.2.2.1 p.2.2.2) p = iterD (roundOf fs X150 6 150 4 false f_laws_eqHomeS.l0.c) n p :=
  iter_of (l := fun n => fun (p : (List (List Int × Int × List Bool × Bool × Int × Bool × Int × (List (Int × Bool)))) × (List (List Int × Int × List Bool × Bool × Int × Bool × Int × (List (Int × Bool)))) × Bool × Int) => f_laws_eqHomeS.l0 n p.1 p.2.1 p.2.2.1 p.2.2.2) (fun _ => rfl) (fun n p => by kernel_rfl)
theorem E150 : ∀ x, funRun fs X150 6 150 C150 x = C150.fn x := fun x => by kernel_rfl
theorem B150 : ConB Try.prog 150 C150 := ConB.make FS MIX TY (cons := K150) (L := L150) (ptrs := Q150) ⟨S190, trivial⟩ trivial ⟨⟨⟨N, fun p => f_laws_eqHomeS.l0.ok N p⟩, trivial⟩, trivial⟩ rfl rfl E150
theorem S150 : ConS Try.prog 150 C150 := B150.call rfl
/-! laws.eqMsg: function 78 -/
noncomputable def f_laws_eqMsg (x0 : Int) (x1 : Int) (x2 : Bool) (x3 : List Int) (x4 : Int) (x5 : Int) (x6 : Bool) (x7 : List Int) : Option (Bool) :=
  bif (!(decide (x0 = x4))) then
    some false
  else
    bif (!(decide (x1 = x5))) then
      some false
    else
      bif (!(x2 == x6)) then
        some false
      else
        (f_laws_eqIntS x3 x7).bind fun y83 =>
        bif (!y83) then
          some false
        else
          some true
noncomputable def C78 : Con := ⟨[(.B, true, [(.int .i64), (.int .i64), .bool, (.sl R0)]), (.B, true, [(.int .i64), (.int .i64), .bool, (.sl R0)])], [(false, [.bool])], [(.int .i64), (.int .i64), .bool, (.sl R0), (.int .i64), (.int .i64), .bool, (.sl R0)], [.bool], fun (p : Int × Int × Bool × List Int × Int × Int × Bool × List Int) => f_laws_eqMsg p.1 p.2.1 p.2.2.1 p.2.2.2.1 p.2.2.2.2.1 p.2.2.2.2.2.1 p.2.2.2.2.2.2.1 p.2.2.2.2.2.2.2⟩
noncomputable abbrev K78 : Cons := [(20, C20)]
noncomputable abbrev L78 : List (Nat × Loops) := []
abbrev Q78 : List (Nat × List (Int × Nat) × Nat) := []
noncomputable abbrev X78 : Nat → Ctx := ctxOf tb K78 L78 Q78
theorem E78 : ∀ x, funRun fs X78 6 78 C78 x = C78.fn x := fun x => by kernel_rfl
theorem B78 : ConB Try.prog 78 C78 := ConB.make FS MIX TY (cons := K78) (L := L78) (ptrs := Q78) ⟨S20, trivial⟩ trivial trivial rfl rfl E78
theorem S78 : ConS Try.prog 78 C78 := B78.call rfl
/-! laws.eqMsgS: function 145 -/
noncomputable def f_laws_eqMsgS.l0 : Nat → (List (Int × Int × Bool × List Int)) → (List (Int × Int × Bool × List Int)) → Bool → Int → Option ((Bool) ⊕ (Bool))
  | 0, _, _, _, _ => none
  | n + 1, p84, p85, p86, p87 =>
    bif (decide (p87 < (p84.length : Int))) then
      bif ((decide ((0 : Int) ≤ p87)) && (decide (p87 < (p84.length : Int)))) then
      bif ((decide ((0 : Int) ≤ p87)) && (decide (p87 < (p85.length : Int)))) then
      (f_laws_eqMsg ((p84.getD p87.toNat (0, 0, false, [])).1) ((p84.getD p87.toNat (0, 0, false, [])).2.1) ((p84.getD p87.toNat (0, 0, false, [])).2.2.1) ((p84.getD p87.toNat (0, 0, false, [])).2.2.2) ((p85.getD p87.toNat (0, 0, false, [])).1) ((p85.getD p87.toNat (0, 0, false, [])).2.1) ((p85.getD p87.toNat (0, 0, false, [])).2.2.1) ((p85.getD p87.toNat (0, 0, false, [])).2.2.2)).bind fun y88 =>
      bif (!y88) then
        some (.inl false)
      else
        f_laws_eqMsgS.l0 n p84 p85 p86 (IntKind.wrap .i64 (p87 + (1 : Int)))
      else none
      else none
    else
      some (.inr p86)
noncomputable def f_laws_eqMsgS (x0 : List (Int × Int × Bool × List Int)) (x1 : List (Int × Int × Bool × List Int)) : Option (Bool) :=
  bif (!(decide ((x0.length : Int) = (x1.length : Int)))) then
    some false
  else
    (f_laws_eqMsgS.l0 N x0 x1 false 0).bind fun r89 =>
    cs r89 (fun a90 =>
      some a90) (fun b91 =>
      some true)
noncomputable def C145 : Con := ⟨[(.B, false, [(.sl R5)]), (.B, false, [(.sl R5)])], [(false, [.bool])], [(.sl R5), (.sl R5)], [.bool], fun (p : (List (Int × Int × Bool × List Int)) × (List (Int × Int × Bool × List Int))) => f_laws_eqMsgS p.1 p.2⟩
noncomputable def f_laws_eqMsgS.l0.c : LoopCon := ⟨1000, 6, [0, 1, 4, 5], ⟨[(0, .bor none R5 []), (1, .bor none R5 []), (4, .bool false), (5, .int .i64 0)], [], 1000⟩, [(.sl R5), (.sl R5), .bool, (.int .i64)], [⟨.ret, [4], ⟨[(4, .bool false)], [], 1000⟩, [.bool]⟩, ⟨.exit 0, [4], ⟨[(4, .bool false)], [], 1000⟩, [.bool]⟩], fun (p : (List (Int × Int × Bool × List Int)) × (List (Int × Int × Bool × List Int)) × Bool × Int) => f_laws_eqMsgS.l0 N p.1 p.2.1 p.2.2.1 p.2.2.2⟩
noncomputable abbrev K145 : Cons := [(78, C78)]
noncomputable abbrev L145 : List (Nat × Loops) := [(145, [(4, f_laws_eqMsgS.l0.c)])]
abbrev Q145 : List (Nat × List (Int × Nat) × Nat) := []
noncomputable abbrev X145 : Nat → Ctx := ctxOf tb K145 L145 Q145
theorem f_laws_eqMsgS.l0.ok : ∀ n p, (fun (p : (List (Int × Int × Bool × List Int)) × (List (Int × Int × Bool × List Int)) × Bool × Int) => f_laws_eqMsgS.l0 n p.1 p.2.1 p.2.2.1 p.2.2.2) p = iterD (roundOf fs X145 6 145 4 false f_laws_eqMsgS.l0.c) n p :=
  iter_of (l := fun n => fun (p : (List (Int × Int × Bool × List Int)) × (List (Int × Int × Bool × List Int)) × Bool × Int) => f_laws_eqMsgS.l0 n p.1 p.2.1 p.2.2.1 p.2.2.2) (fun _ => rfl) (fun n p => by kernel_rfl)
theorem E145 : ∀ x, funRun fs X145 6 145 C145 x = C145.fn x := fun x => by kernel_rfl
theorem B145 : ConB Try.prog 145 C145 := ConB.make FS MIX TY (cons := K145) (L := L145) (ptrs := Q145) ⟨S78, trivial⟩ trivial ⟨⟨⟨N, fun p => f_laws_eqMsgS.l0.ok N p⟩, trivial⟩, trivial⟩ rfl rfl E145
theorem S145 : ConS Try.prog 145 C145 := B145.call rfl
/-! laws.eqSender: function 73 -/
noncomputable def f_laws_eqSender (x0 : Int) (x1 : List (Int × Int × Bool × List Int)) (x2 : Int) (x3 : List (Int × Int × Bool × List Int)) : Option (Bool) :=
  bif (!(decide (x0 = x2))) then
    some false
  else
    (f_laws_eqMsgS x1 x3).bind fun y92 =>
    bif (!y92) then
      some false
    else
      some true
noncomputable def C73 : Con := ⟨[(.B, true, [(.int .i64), (.sl R5)]), (.B, true, [(.int .i64), (.sl R5)])], [(false, [.bool])], [(.int .i64), (.sl R5), (.int .i64), (.sl R5)], [.bool], fun (p : Int × (List (Int × Int × Bool × List Int)) × Int × (List (Int × Int × Bool × List Int))) => f_laws_eqSender p.1 p.2.1 p.2.2.1 p.2.2.2⟩
noncomputable abbrev K73 : Cons := [(145, C145)]
noncomputable abbrev L73 : List (Nat × Loops) := []
abbrev Q73 : List (Nat × List (Int × Nat) × Nat) := []
noncomputable abbrev X73 : Nat → Ctx := ctxOf tb K73 L73 Q73
theorem E73 : ∀ x, funRun fs X73 6 73 C73 x = C73.fn x := fun x => by kernel_rfl
theorem B73 : ConB Try.prog 73 C73 := ConB.make FS MIX TY (cons := K73) (L := L73) (ptrs := Q73) ⟨S145, trivial⟩ trivial trivial rfl rfl E73
theorem S73 : ConS Try.prog 73 C73 := B73.call rfl
/-! laws.eqSenderS: function 151 -/
noncomputable def f_laws_eqSenderS.l0 : Nat → (List (Int × (List (Int × Int × Bool × List Int)))) → (List (Int × (List (Int × Int × Bool × List Int)))) → Bool → Int → Option ((Bool) ⊕ (Bool))
  | 0, _, _, _, _ => none
  | n + 1, p93, p94, p95, p96 =>
    bif (decide (p96 < (p93.length : Int))) then
      bif ((decide ((0 : Int) ≤ p96)) && (decide (p96 < (p93.length : Int)))) then
      bif ((decide ((0 : Int) ≤ p96)) && (decide (p96 < (p94.length : Int)))) then
      (f_laws_eqSender ((p93.getD p96.toNat (0, [])).1) ((p93.getD p96.toNat (0, [])).2) ((p94.getD p96.toNat (0, [])).1) ((p94.getD p96.toNat (0, [])).2)).bind fun y97 =>
      bif (!y97) then
        some (.inl false)
      else
        f_laws_eqSenderS.l0 n p93 p94 p95 (IntKind.wrap .i64 (p96 + (1 : Int)))
      else none
      else none
    else
      some (.inr p95)
noncomputable def f_laws_eqSenderS (x0 : List (Int × (List (Int × Int × Bool × List Int)))) (x1 : List (Int × (List (Int × Int × Bool × List Int)))) : Option (Bool) :=
  bif (!(decide ((x0.length : Int) = (x1.length : Int)))) then
    some false
  else
    (f_laws_eqSenderS.l0 N x0 x1 false 0).bind fun r98 =>
    cs r98 (fun a99 =>
      some a99) (fun b100 =>
      some true)
noncomputable def C151 : Con := ⟨[(.B, false, [(.sl R6)]), (.B, false, [(.sl R6)])], [(false, [.bool])], [(.sl R6), (.sl R6)], [.bool], fun (p : (List (Int × (List (Int × Int × Bool × List Int)))) × (List (Int × (List (Int × Int × Bool × List Int))))) => f_laws_eqSenderS p.1 p.2⟩
noncomputable def f_laws_eqSenderS.l0.c : LoopCon := ⟨1000, 6, [0, 1, 4, 5], ⟨[(0, .bor none R6 []), (1, .bor none R6 []), (4, .bool false), (5, .int .i64 0)], [], 1000⟩, [(.sl R6), (.sl R6), .bool, (.int .i64)], [⟨.ret, [4], ⟨[(4, .bool false)], [], 1000⟩, [.bool]⟩, ⟨.exit 0, [4], ⟨[(4, .bool false)], [], 1000⟩, [.bool]⟩], fun (p : (List (Int × (List (Int × Int × Bool × List Int)))) × (List (Int × (List (Int × Int × Bool × List Int)))) × Bool × Int) => f_laws_eqSenderS.l0 N p.1 p.2.1 p.2.2.1 p.2.2.2⟩
noncomputable abbrev K151 : Cons := [(73, C73)]
noncomputable abbrev L151 : List (Nat × Loops) := [(151, [(4, f_laws_eqSenderS.l0.c)])]
abbrev Q151 : List (Nat × List (Int × Nat) × Nat) := []
noncomputable abbrev X151 : Nat → Ctx := ctxOf tb K151 L151 Q151
theorem f_laws_eqSenderS.l0.ok : ∀ n p, (fun (p : (List (Int × (List (Int × Int × Bool × List Int)))) × (List (Int × (List (Int × Int × Bool × List Int)))) × Bool × Int) => f_laws_eqSenderS.l0 n p.1 p.2.1 p.2.2.1 p.2.2.2) p = iterD (roundOf fs X151 6 151 4 false f_laws_eqSenderS.l0.c) n p :=
  iter_of (l := fun n => fun (p : (List (Int × (List (Int × Int × Bool × List Int)))) × (List (Int × (List (Int × Int × Bool × List Int)))) × Bool × Int) => f_laws_eqSenderS.l0 n p.1 p.2.1 p.2.2.1 p.2.2.2) (fun _ => rfl) (fun n p => by kernel_rfl)
theorem E151 : ∀ x, funRun fs X151 6 151 C151 x = C151.fn x := fun x => by kernel_rfl
theorem B151 : ConB Try.prog 151 C151 := ConB.make FS MIX TY (cons := K151) (L := L151) (ptrs := Q151) ⟨S73, trivial⟩ trivial ⟨⟨⟨N, fun p => f_laws_eqSenderS.l0.ok N p⟩, trivial⟩, trivial⟩ rfl rfl E151
theorem S151 : ConS Try.prog 151 C151 := B151.call rfl
/-! laws.eqReceiver: function 191 -/
noncomputable def f_laws_eqReceiver (x0 : Int) (x1 : Int) : Option (Bool) :=
  bif (!(decide (x0 = x1))) then
    some false
  else
    some true
noncomputable def C191 : Con := ⟨[(.B, true, [(.int .i64)]), (.B, true, [(.int .i64)])], [(false, [.bool])], [(.int .i64), (.int .i64)], [.bool], fun (p : Int × Int) => f_laws_eqReceiver p.1 p.2⟩
noncomputable abbrev K191 : Cons := []
noncomputable abbrev L191 : List (Nat × Loops) := []
abbrev Q191 : List (Nat × List (Int × Nat) × Nat) := []
noncomputable abbrev X191 : Nat → Ctx := ctxOf tb K191 L191 Q191
theorem E191 : ∀ x, funRun fs X191 6 191 C191 x = C191.fn x := fun x => by kernel_rfl
theorem B191 : ConB Try.prog 191 C191 := ConB.make FS MIX TY (cons := K191) (L := L191) (ptrs := Q191) trivial trivial trivial rfl rfl E191
theorem S191 : ConS Try.prog 191 C191 := B191.call rfl
/-! laws.eqReceiverS: function 152 -/
noncomputable def f_laws_eqReceiverS.l0 : Nat → (List Int) → (List Int) → Bool → Int → Option ((Bool) ⊕ (Bool))
  | 0, _, _, _, _ => none
  | n + 1, p101, p102, p103, p104 =>
    bif (decide (p104 < (p101.length : Int))) then
      bif ((decide ((0 : Int) ≤ p104)) && (decide (p104 < (p101.length : Int)))) then
      bif ((decide ((0 : Int) ≤ p104)) && (decide (p104 < (p102.length : Int)))) then
      (f_laws_eqReceiver (p101.getD p104.toNat 0) (p102.getD p104.toNat 0)).bind fun y105 =>
      bif (!y105) then
        some (.inl false)
      else
        f_laws_eqReceiverS.l0 n p101 p102 p103 (IntKind.wrap .i64 (p104 + (1 : Int)))
      else none
      else none
    else
      some (.inr p103)
noncomputable def f_laws_eqReceiverS (x0 : List Int) (x1 : List Int) : Option (Bool) :=
  bif (!(decide ((x0.length : Int) = (x1.length : Int)))) then
    some false
  else
    (f_laws_eqReceiverS.l0 N x0 x1 false 0).bind fun r106 =>
    cs r106 (fun a107 =>
      some a107) (fun b108 =>
      some true)
noncomputable def C152 : Con := ⟨[(.B, false, [(.sl R0)]), (.B, false, [(.sl R0)])], [(false, [.bool])], [(.sl R0), (.sl R0)], [.bool], fun (p : List Int × List Int) => f_laws_eqReceiverS p.1 p.2⟩
noncomputable def f_laws_eqReceiverS.l0.c : LoopCon := ⟨1000, 6, [0, 1, 4, 5], ⟨[(0, .bor none R0 []), (1, .bor none R0 []), (4, .bool false), (5, .int .i64 0)], [], 1000⟩, [(.sl R0), (.sl R0), .bool, (.int .i64)], [⟨.ret, [4], ⟨[(4, .bool false)], [], 1000⟩, [.bool]⟩, ⟨.exit 0, [4], ⟨[(4, .bool false)], [], 1000⟩, [.bool]⟩], fun (p : List Int × List Int × Bool × Int) => f_laws_eqReceiverS.l0 N p.1 p.2.1 p.2.2.1 p.2.2.2⟩
noncomputable abbrev K152 : Cons := [(191, C191)]
noncomputable abbrev L152 : List (Nat × Loops) := [(152, [(4, f_laws_eqReceiverS.l0.c)])]
abbrev Q152 : List (Nat × List (Int × Nat) × Nat) := []
noncomputable abbrev X152 : Nat → Ctx := ctxOf tb K152 L152 Q152
theorem f_laws_eqReceiverS.l0.ok : ∀ n p, (fun (p : List Int × List Int × Bool × Int) => f_laws_eqReceiverS.l0 n p.1 p.2.1 p.2.2.1 p.2.2.2) p = iterD (roundOf fs X152 6 152 4 false f_laws_eqReceiverS.l0.c) n p :=
  iter_of (l := fun n => fun (p : List Int × List Int × Bool × Int) => f_laws_eqReceiverS.l0 n p.1 p.2.1 p.2.2.1 p.2.2.2) (fun _ => rfl) (fun n p => by kernel_rfl)
theorem E152 : ∀ x, funRun fs X152 6 152 C152 x = C152.fn x := fun x => by kernel_rfl
theorem B152 : ConB Try.prog 152 C152 := ConB.make FS MIX TY (cons := K152) (L := L152) (ptrs := Q152) ⟨S191, trivial⟩ trivial ⟨⟨⟨N, fun p => f_laws_eqReceiverS.l0.ok N p⟩, trivial⟩, trivial⟩ rfl rfl E152
theorem S152 : ConS Try.prog 152 C152 := B152.call rfl
/-! laws.eqNode: function 82 -/
noncomputable def f_laws_eqNode (x0 : Int) (x1 : List (Int × List Int × Bool)) (x2 : List (List Int × Int × List Bool × Bool × Int × Bool × Int × (List (Int × Bool)))) (x3 : List (Int × (List (Int × Int × Bool × List Int)))) (x4 : List Int) (x5 : Int) (x6 : List (Int × List Int × Bool)) (x7 : List (List Int × Int × List Bool × Bool × Int × Bool × Int × (List (Int × Bool)))) (x8 : List (Int × (List (Int × Int × Bool × List Int)))) (x9 : List Int) : Option (Bool) :=
  bif (!(decide (x0 = x5))) then
    some false
  else
    (f_laws_eqFrameS x1 x6).bind fun y109 =>
    bif (!y109) then
      some false
    else
      (f_laws_eqHomeS x2 x7).bind fun y110 =>
      bif (!y110) then
        some false
      else
        (f_laws_eqSenderS x3 x8).bind fun y111 =>
        bif (!y111) then
          some false
        else
          (f_laws_eqReceiverS x4 x9).bind fun y112 =>
          bif (!y112) then
            some false
          else
            some true
noncomputable def C82 : Con := ⟨[(.B, true, [(.int .i64), (.sl R3), (.sl R4), (.sl R6), (.sl R0)]), (.B, true, [(.int .i64), (.sl R3), (.sl R4), (.sl R6), (.sl R0)])], [(false, [.bool])], [(.int .i64), (.sl R3), (.sl R4), (.sl R6), (.sl R0), (.int .i64), (.sl R3), (.sl R4), (.sl R6), (.sl R0)], [.bool], fun (p : Int × (List (Int × List Int × Bool)) × (List (List Int × Int × List Bool × Bool × Int × Bool × Int × (List (Int × Bool)))) × (List (Int × (List (Int × Int × Bool × List Int)))) × List Int × Int × (List (Int × List Int × Bool)) × (List (List Int × Int × List Bool × Bool × Int × Bool × Int × (List (Int × Bool)))) × (List (Int × (List (Int × Int × Bool × List Int)))) × List Int) => f_laws_eqNode p.1 p.2.1 p.2.2.1 p.2.2.2.1 p.2.2.2.2.1 p.2.2.2.2.2.1 p.2.2.2.2.2.2.1 p.2.2.2.2.2.2.2.1 p.2.2.2.2.2.2.2.2.1 p.2.2.2.2.2.2.2.2.2⟩
noncomputable abbrev K82 : Cons := [(149, C149), (150, C150), (151, C151), (152, C152)]
noncomputable abbrev L82 : List (Nat × Loops) := []
abbrev Q82 : List (Nat × List (Int × Nat) × Nat) := []
noncomputable abbrev X82 : Nat → Ctx := ctxOf tb K82 L82 Q82
theorem E82 : ∀ x, funRun fs X82 6 82 C82 x = C82.fn x := fun x => by kernel_rfl
theorem B82 : ConB Try.prog 82 C82 := ConB.make FS MIX TY (cons := K82) (L := L82) (ptrs := Q82) ⟨S149, S150, S151, S152, trivial⟩ trivial trivial rfl rfl E82
theorem S82 : ConS Try.prog 82 C82 := B82.call rfl
/-! laws.markIntS: function 22 -/
noncomputable def f_laws_markIntS.l0 : Nat → Int → Int → Int → (List Int) → Option (Int × Int × List Int)
  | 0, _, _, _, _ => none
  | n + 1, p113, p114, p115, p116 =>
    bif (decide (p115 < (p116.length : Int))) then
      bif ((decide ((0 : Int) ≤ p115)) && (decide (p115 < (p116.length : Int)))) then
      (some ((p116.set p115.toNat p113) : List Int)).bind fun z117 =>
      f_laws_markIntS.l0 n (IntKind.wrap .i64 (p113 + (1 : Int))) p114 (IntKind.wrap .i64 (p115 + (1 : Int))) z117
      else none
    else
      some (p113, p114, p116)
noncomputable def f_laws_markIntS (x0 : List Int) (x1 : Int) : Option (Int × List Int) :=
  (f_laws_markIntS.l0 N x1 0 0 x0).bind fun r118 =>
  some (r118.1, r118.2.2)
noncomputable def C22 : Con := ⟨[(.I, false, [(.sl R0)]), (.B, false, [(.int .i64)])], [(false, [(.int .i64)])], [(.sl R0), (.int .i64)], [(.int .i64), (.sl R0)], fun (p : List Int × Int) => f_laws_markIntS p.1 p.2⟩
noncomputable def f_laws_markIntS.l0.c : LoopCon := ⟨1000, 6, [0, 1, 4, 5], ⟨[(0, .ref 0 [] none), (1, .int .i64 0), (4, .int .i64 0), (5, .int .i64 0)], [(0, .row R0 [])], 1000⟩, [(.int .i64), (.int .i64), (.int .i64), (.sl R0)], [⟨.exit 0, [1, 4], ⟨[(1, .int .i64 0), (4, .int .i64 0)], [(0, .row R0 [])], 1000⟩, [(.int .i64), (.int .i64), (.sl R0)]⟩], fun (p : Int × Int × Int × List Int) => f_laws_markIntS.l0 N p.1 p.2.1 p.2.2.1 p.2.2.2⟩
noncomputable abbrev K22 : Cons := []
noncomputable abbrev L22 : List (Nat × Loops) := [(22, [(2, f_laws_markIntS.l0.c)])]
abbrev Q22 : List (Nat × List (Int × Nat) × Nat) := []
noncomputable abbrev X22 : Nat → Ctx := ctxOf tb K22 L22 Q22
theorem f_laws_markIntS.l0.ok : ∀ n p, (fun (p : Int × Int × Int × List Int) => f_laws_markIntS.l0 n p.1 p.2.1 p.2.2.1 p.2.2.2) p = iterD (roundOf fs X22 6 22 2 false f_laws_markIntS.l0.c) n p :=
  iter_of (l := fun n => fun (p : Int × Int × Int × List Int) => f_laws_markIntS.l0 n p.1 p.2.1 p.2.2.1 p.2.2.2) (fun _ => rfl) (fun n p => by kernel_rfl)
theorem E22 : ∀ x, funG fs X22 6 22 C22 x = C22.fn x := fun x => by kernel_rfl
theorem B22 : ConG Try.prog 22 C22 := ConG.make FS MIX TY (cons := K22) (L := L22) (ptrs := Q22) trivial trivial ⟨⟨⟨N, fun p => f_laws_markIntS.l0.ok N p⟩, trivial⟩, trivial⟩ rfl (by kernel_rfl) E22
theorem S22 : ConS Try.prog 22 C22 := B22.call (by kernel_rfl)
/-! laws.markFrameS: function 153 -/
noncomputable def f_laws_markFrameS.l0 : Nat → Int → Int → Int → (List (Int × List Int × Bool)) → Option (Int × Int × (List (Int × List Int × Bool)))
  | 0, _, _, _, _ => none
  | n + 1, p119, p120, p121, p122 =>
    bif (decide (p121 < (p122.length : Int))) then
      bif ((decide ((0 : Int) ≤ p121)) && (decide (p121 < (p122.length : Int)))) then
      (some ((p122.set p121.toNat (p119, (p122.getD p121.toNat (0, [], false)).2.1, (p122.getD p121.toNat (0, [], false)).2.2)) : List (Int × List Int × Bool))).bind fun z123 =>
      bif ((decide ((0 : Int) ≤ p121)) && (decide (p121 < (z123.length : Int)))) then
      (f_laws_markIntS ((z123.getD p121.toNat (0, [], false)).2.1) (IntKind.wrap .i64 (p119 + (1 : Int)))).bind fun y124 =>
      (some ((z123.set p121.toNat ((z123.getD p121.toNat (0, [], false)).1, y124.2, (z123.getD p121.toNat (0, [], false)).2.2)) : List (Int × List Int × Bool))).bind fun z125 =>
      bif ((decide ((0 : Int) ≤ p121)) && (decide (p121 < (z125.length : Int)))) then
      (some ((z125.set p121.toNat ((z125.getD p121.toNat (0, [], false)).1, (z125.getD p121.toNat (0, [], false)).2.1, (decide ((Int.tmod y124.1 (3 : Int)) = (0 : Int))))) : List (Int × List Int × Bool))).bind fun z126 =>
      f_laws_markFrameS.l0 n (IntKind.wrap .i64 (y124.1 + (1 : Int))) p120 (IntKind.wrap .i64 (p121 + (1 : Int))) z126
      else none
      else none
      else none
    else
      some (p119, p120, p122)
noncomputable def f_laws_markFrameS (x0 : List (Int × List Int × Bool)) (x1 : Int) : Option (Int × (List (Int × List Int × Bool))) :=
  (f_laws_markFrameS.l0 N x1 0 0 x0).bind fun r127 =>
  some (r127.1, r127.2.2)
noncomputable def C153 : Con := ⟨[(.I, false, [(.sl R3)]), (.B, false, [(.int .i64)])], [(false, [(.int .i64)])], [(.sl R3), (.int .i64)], [(.int .i64), (.sl R3)], fun (p : (List (Int × List Int × Bool)) × Int) => f_laws_markFrameS p.1 p.2⟩
noncomputable def f_laws_markFrameS.l0.c : LoopCon := ⟨1000, 6, [0, 1, 4, 5], ⟨[(0, .ref 0 [] none), (1, .int .i64 0), (4, .int .i64 0), (5, .int .i64 0)], [(0, .row R3 [])], 1000⟩, [(.int .i64), (.int .i64), (.int .i64), (.sl R3)], [⟨.exit 0, [1, 4], ⟨[(1, .int .i64 0), (4, .int .i64 0)], [(0, .row R3 [])], 1000⟩, [(.int .i64), (.int .i64), (.sl R3)]⟩], fun (p : Int × Int × Int × (List (Int × List Int × Bool))) => f_laws_markFrameS.l0 N p.1 p.2.1 p.2.2.1 p.2.2.2⟩
noncomputable abbrev K153 : Cons := [(22, C22)]
noncomputable abbrev L153 : List (Nat × Loops) := [(153, [(2, f_laws_markFrameS.l0.c)])]
abbrev Q153 : List (Nat × List (Int × Nat) × Nat) := []
noncomputable abbrev X153 : Nat → Ctx := ctxOf tb K153 L153 Q153
theorem f_laws_markFrameS.l0.ok : ∀ n p, (fun (p : Int × Int × Int × (List (Int × List Int × Bool))) => f_laws_markFrameS.l0 n p.1 p.2.1 p.2.2.1 p.2.2.2) p = iterD (roundOf fs X153 6 153 2 false f_laws_markFrameS.l0.c) n p :=
  iter_of (l := fun n => fun (p : Int × Int × Int × (List (Int × List Int × Bool))) => f_laws_markFrameS.l0 n p.1 p.2.1 p.2.2.1 p.2.2.2) (fun _ => rfl) (fun n p => by kernel_rfl)
theorem E153 : ∀ x, funG fs X153 6 153 C153 x = C153.fn x := fun x => by kernel_rfl
theorem B153 : ConG Try.prog 153 C153 := ConG.make FS MIX TY (cons := K153) (L := L153) (ptrs := Q153) ⟨S22, trivial⟩ trivial ⟨⟨⟨N, fun p => f_laws_markFrameS.l0.ok N p⟩, trivial⟩, trivial⟩ rfl (by kernel_rfl) E153
theorem S153 : ConS Try.prog 153 C153 := B153.call (by kernel_rfl)
/-! laws.markBoolS: function 192 -/
noncomputable def f_laws_markBoolS.l0 : Nat → Int → Int → Int → (List Bool) → Option (Int × Int × List Bool)
  | 0, _, _, _, _ => none
  | n + 1, p128, p129, p130, p131 =>
    bif (decide (p130 < (p131.length : Int))) then
      bif ((decide ((0 : Int) ≤ p130)) && (decide (p130 < (p131.length : Int)))) then
      (some ((p131.set p130.toNat (decide ((Int.tmod p128 (3 : Int)) = (0 : Int)))) : List Bool)).bind fun z132 =>
      f_laws_markBoolS.l0 n (IntKind.wrap .i64 (p128 + (1 : Int))) p129 (IntKind.wrap .i64 (p130 + (1 : Int))) z132
      else none
    else
      some (p128, p129, p131)
noncomputable def f_laws_markBoolS (x0 : List Bool) (x1 : Int) : Option (Int × List Bool) :=
  (f_laws_markBoolS.l0 N x1 0 0 x0).bind fun r133 =>
  some (r133.1, r133.2.2)
noncomputable def C192 : Con := ⟨[(.I, false, [(.sl R1)]), (.B, false, [(.int .i64)])], [(false, [(.int .i64)])], [(.sl R1), (.int .i64)], [(.int .i64), (.sl R1)], fun (p : List Bool × Int) => f_laws_markBoolS p.1 p.2⟩
noncomputable def f_laws_markBoolS.l0.c : LoopCon := ⟨1000, 6, [0, 1, 4, 5], ⟨[(0, .ref 0 [] none), (1, .int .i64 0), (4, .int .i64 0), (5, .int .i64 0)], [(0, .row R1 [])], 1000⟩, [(.int .i64), (.int .i64), (.int .i64), (.sl R1)], [⟨.exit 0, [1, 4], ⟨[(1, .int .i64 0), (4, .int .i64 0)], [(0, .row R1 [])], 1000⟩, [(.int .i64), (.int .i64), (.sl R1)]⟩], fun (p : Int × Int × Int × List Bool) => f_laws_markBoolS.l0 N p.1 p.2.1 p.2.2.1 p.2.2.2⟩
noncomputable abbrev K192 : Cons := []
noncomputable abbrev L192 : List (Nat × Loops) := [(192, [(2, f_laws_markBoolS.l0.c)])]
abbrev Q192 : List (Nat × List (Int × Nat) × Nat) := []
noncomputable abbrev X192 : Nat → Ctx := ctxOf tb K192 L192 Q192
theorem f_laws_markBoolS.l0.ok : ∀ n p, (fun (p : Int × Int × Int × List Bool) => f_laws_markBoolS.l0 n p.1 p.2.1 p.2.2.1 p.2.2.2) p = iterD (roundOf fs X192 6 192 2 false f_laws_markBoolS.l0.c) n p :=
  iter_of (l := fun n => fun (p : Int × Int × Int × List Bool) => f_laws_markBoolS.l0 n p.1 p.2.1 p.2.2.1 p.2.2.2) (fun _ => rfl) (fun n p => by kernel_rfl)
theorem E192 : ∀ x, funG fs X192 6 192 C192 x = C192.fn x := fun x => by kernel_rfl
theorem B192 : ConG Try.prog 192 C192 := ConG.make FS MIX TY (cons := K192) (L := L192) (ptrs := Q192) trivial trivial ⟨⟨⟨N, fun p => f_laws_markBoolS.l0.ok N p⟩, trivial⟩, trivial⟩ rfl (by kernel_rfl) E192
theorem S192 : ConS Try.prog 192 C192 := B192.call (by kernel_rfl)
/-! laws.markWaitS: function 193 -/
noncomputable def f_laws_markWaitS.l0 : Nat → Int → Int → Int → (List (Int × Bool)) → Option (Int × Int × (List (Int × Bool)))
  | 0, _, _, _, _ => none
  | n + 1, p134, p135, p136, p137 =>
    bif (decide (p136 < (p137.length : Int))) then
      bif ((decide ((0 : Int) ≤ p136)) && (decide (p136 < (p137.length : Int)))) then
      (some ((p137.set p136.toNat (p134, (p137.getD p136.toNat (0, false)).2)) : List (Int × Bool))).bind fun z138 =>
      bif ((decide ((0 : Int) ≤ p136)) && (decide (p136 < (z138.length : Int)))) then
      (some ((z138.set p136.toNat ((z138.getD p136.toNat (0, false)).1, (decide ((Int.tmod (IntKind.wrap .i64 (p134 + (1 : Int))) (3 : Int)) = (0 : Int))))) : List (Int × Bool))).bind fun z139 =>
      f_laws_markWaitS.l0 n (IntKind.wrap .i64 ((IntKind.wrap .i64 (p134 + (1 : Int))) + (1 : Int))) p135 (IntKind.wrap .i64 (p136 + (1 : Int))) z139
      else none
      else none
    else
      some (p134, p135, p137)
noncomputable def f_laws_markWaitS (x0 : List (Int × Bool)) (x1 : Int) : Option (Int × (List (Int × Bool))) :=
  (f_laws_markWaitS.l0 N x1 0 0 x0).bind fun r140 =>
  some (r140.1, r140.2.2)
noncomputable def C193 : Con := ⟨[(.I, false, [(.sl R2)]), (.B, false, [(.int .i64)])], [(false, [(.int .i64)])], [(.sl R2), (.int .i64)], [(.int .i64), (.sl R2)], fun (p : (List (Int × Bool)) × Int) => f_laws_markWaitS p.1 p.2⟩
noncomputable def f_laws_markWaitS.l0.c : LoopCon := ⟨1000, 6, [0, 1, 4, 5], ⟨[(0, .ref 0 [] none), (1, .int .i64 0), (4, .int .i64 0), (5, .int .i64 0)], [(0, .row R2 [])], 1000⟩, [(.int .i64), (.int .i64), (.int .i64), (.sl R2)], [⟨.exit 0, [1, 4], ⟨[(1, .int .i64 0), (4, .int .i64 0)], [(0, .row R2 [])], 1000⟩, [(.int .i64), (.int .i64), (.sl R2)]⟩], fun (p : Int × Int × Int × (List (Int × Bool))) => f_laws_markWaitS.l0 N p.1 p.2.1 p.2.2.1 p.2.2.2⟩
noncomputable abbrev K193 : Cons := []
noncomputable abbrev L193 : List (Nat × Loops) := [(193, [(2, f_laws_markWaitS.l0.c)])]
abbrev Q193 : List (Nat × List (Int × Nat) × Nat) := []
noncomputable abbrev X193 : Nat → Ctx := ctxOf tb K193 L193 Q193
theorem f_laws_markWaitS.l0.ok : ∀ n p, (fun (p : Int × Int × Int × (List (Int × Bool))) => f_laws_markWaitS.l0 n p.1 p.2.1 p.2.2.1 p.2.2.2) p = iterD (roundOf fs X193 6 193 2 false f_laws_markWaitS.l0.c) n p :=
  iter_of (l := fun n => fun (p : Int × Int × Int × (List (Int × Bool))) => f_laws_markWaitS.l0 n p.1 p.2.1 p.2.2.1 p.2.2.2) (fun _ => rfl) (fun n p => by kernel_rfl)
theorem E193 : ∀ x, funG fs X193 6 193 C193 x = C193.fn x := fun x => by kernel_rfl
theorem B193 : ConG Try.prog 193 C193 := ConG.make FS MIX TY (cons := K193) (L := L193) (ptrs := Q193) trivial trivial ⟨⟨⟨N, fun p => f_laws_markWaitS.l0.ok N p⟩, trivial⟩, trivial⟩ rfl (by kernel_rfl) E193
theorem S193 : ConS Try.prog 193 C193 := B193.call (by kernel_rfl)
/-! laws.markHomeS: function 154 -/
noncomputable def f_laws_markHomeS.l0 : Nat → Int → Int → Int → (List (List Int × Int × List Bool × Bool × Int × Bool × Int × (List (Int × Bool)))) → Option (Int × Int × (List (List Int × Int × List Bool × Bool × Int × Bool × Int × (List (Int × Bool)))))
  | 0, _, _, _, _ => none
  | n + 1, p141, p142, p143, p144 =>
    bif (decide (p143 < (p144.length : Int))) then
      bif ((decide ((0 : Int) ≤ p143)) && (decide (p143 < (p144.length : Int)))) then
      (f_laws_markIntS ((p144.getD p143.toNat ([], 0, [], false, 0, false, 0, [])).1) p141).bind fun y145 =>
      (some ((p144.set p143.toNat (y145.2, (p144.getD p143.toNat ([], 0, [], false, 0, false, 0, [])).2.1, (p144.getD p143.toNat ([], 0, [], false, 0, false, 0, [])).2.2.1, (p144.getD p143.toNat ([], 0, [], false, 0, false, 0, [])).2.2.2.1, (p144.getD p143.toNat ([], 0, [], false, 0, false, 0, [])).2.2.2.2.1, (p144.getD p143.toNat ([], 0, [], false, 0, false, 0, [])).2.2.2.2.2.1, (p144.getD p143.toNat ([], 0, [], false, 0, false, 0, [])).2.2.2.2.2.2.1, (p144.getD p143.toNat ([], 0, [], false, 0, false, 0, [])).2.2.2.2.2.2.2)) : List (List Int × Int × List Bool × Bool × Int × Bool × Int × (List (Int × Bool))))).bind fun z146 =>
      bif ((decide ((0 : Int) ≤ p143)) && (decide (p143 < (z146.length : Int)))) then
      (some ((z146.set p143.toNat ((z146.getD p143.toNat ([], 0, [], false, 0, false, 0, [])).1, y145.1, (z146.getD p143.toNat ([], 0, [], false, 0, false, 0, [])).2.2.1, (z146.getD p143.toNat ([], 0, [], false, 0, false, 0, [])).2.2.2.1, (z146.getD p143.toNat ([], 0, [], false, 0, false, 0, [])).2.2.2.2.1, (z146.getD p143.toNat ([], 0, [], false, 0, false, 0, [])).2.2.2.2.2.1, (z146.getD p143.toNat ([], 0, [], false, 0, false, 0, [])).2.2.2.2.2.2.1, (z146.getD p143.toNat ([], 0, [], false, 0, false, 0, [])).2.2.2.2.2.2.2)) : List (List Int × Int × List Bool × Bool × Int × Bool × Int × (List (Int × Bool))))).bind fun z147 =>
      bif ((decide ((0 : Int) ≤ p143)) && (decide (p143 < (z147.length : Int)))) then
      (f_laws_markBoolS ((z147.getD p143.toNat ([], 0, [], false, 0, false, 0, [])).2.2.1) (IntKind.wrap .i64 (y145.1 + (1 : Int)))).bind fun y148 =>
      (some ((z147.set p143.toNat ((z147.getD p143.toNat ([], 0, [], false, 0, false, 0, [])).1, (z147.getD p143.toNat ([], 0, [], false, 0, false, 0, [])).2.1, y148.2, (z147.getD p143.toNat ([], 0, [], false, 0, false, 0, [])).2.2.2.1, (z147.getD p143.toNat ([], 0, [], false, 0, false, 0, [])).2.2.2.2.1, (z147.getD p143.toNat ([], 0, [], false, 0, false, 0, [])).2.2.2.2.2.1, (z147.getD p143.toNat ([], 0, [], false, 0, false, 0, [])).2.2.2.2.2.2.1, (z147.getD p143.toNat ([], 0, [], false, 0, false, 0, [])).2.2.2.2.2.2.2)) : List (List Int × Int × List Bool × Bool × Int × Bool × Int × (List (Int × Bool))))).bind fun z149 =>
      bif ((decide ((0 : Int) ≤ p143)) && (decide (p143 < (z149.length : Int)))) then
      (some ((z149.set p143.toNat ((z149.getD p143.toNat ([], 0, [], false, 0, false, 0, [])).1, (z149.getD p143.toNat ([], 0, [], false, 0, false, 0, [])).2.1, (z149.getD p143.toNat ([], 0, [], false, 0, false, 0, [])).2.2.1, (decide ((Int.tmod y148.1 (3 : Int)) = (0 : Int))), (z149.getD p143.toNat ([], 0, [], false, 0, false, 0, [])).2.2.2.2.1, (z149.getD p143.toNat ([], 0, [], false, 0, false, 0, [])).2.2.2.2.2.1, (z149.getD p143.toNat ([], 0, [], false, 0, false, 0, [])).2.2.2.2.2.2.1, (z149.getD p143.toNat ([], 0, [], false, 0, false, 0, [])).2.2.2.2.2.2.2)) : List (List Int × Int × List Bool × Bool × Int × Bool × Int × (List (Int × Bool))))).bind fun z150 =>
      bif ((decide ((0 : Int) ≤ p143)) && (decide (p143 < (z150.length : Int)))) then
      (some ((z150.set p143.toNat ((z150.getD p143.toNat ([], 0, [], false, 0, false, 0, [])).1, (z150.getD p143.toNat ([], 0, [], false, 0, false, 0, [])).2.1, (z150.getD p143.toNat ([], 0, [], false, 0, false, 0, [])).2.2.1, (z150.getD p143.toNat ([], 0, [], false, 0, false, 0, [])).2.2.2.1, (IntKind.wrap .i64 (y148.1 + (1 : Int))), (z150.getD p143.toNat ([], 0, [], false, 0, false, 0, [])).2.2.2.2.2.1, (z150.getD p143.toNat ([], 0, [], false, 0, false, 0, [])).2.2.2.2.2.2.1, (z150.getD p143.toNat ([], 0, [], false, 0, false, 0, [])).2.2.2.2.2.2.2)) : List (List Int × Int × List Bool × Bool × Int × Bool × Int × (List (Int × Bool))))).bind fun z151 =>
      bif ((decide ((0 : Int) ≤ p143)) && (decide (p143 < (z151.length : Int)))) then
      (some ((z151.set p143.toNat ((z151.getD p143.toNat ([], 0, [], false, 0, false, 0, [])).1, (z151.getD p143.toNat ([], 0, [], false, 0, false, 0, [])).2.1, (z151.getD p143.toNat ([], 0, [], false, 0, false, 0, [])).2.2.1, (z151.getD p143.toNat ([], 0, [], false, 0, false, 0, [])).2.2.2.1, (z151.getD p143.toNat ([], 0, [], false, 0, false, 0, [])).2.2.2.2.1, (decide ((Int.tmod (IntKind.wrap .i64 ((IntKind.wrap .i64 (y148.1 + (1 : Int))) + (1 : Int))) (3 : Int)) = (0 : Int))), (z151.getD p143.toNat ([], 0, [], false, 0, false, 0, [])).2.2.2.2.2.2.1, (z151.getD p143.toNat ([], 0, [], false, 0, false, 0, [])).2.2.2.2.2.2.2)) : List (List Int × Int × List Bool × Bool × Int × Bool × Int × (List (Int × Bool))))).bind fun z152 =>
      bif ((decide ((0 : Int) ≤ p143)) && (decide (p143 < (z152.length : Int)))) then
      (some ((z152.set p143.toNat ((z152.getD p143.toNat ([], 0, [], false, 0, false, 0, [])).1, (z152.getD p143.toNat ([], 0, [], false, 0, false, 0, [])).2.1, (z152.getD p143.toNat ([], 0, [], false, 0, false, 0, [])).2.2.1, (z152.getD p143.toNat ([], 0, [], false, 0, false, 0, [])).2.2.2.1, (z152.getD p143.toNat ([], 0, [], false, 0, false, 0, [])).2.2.2.2.1, (z152.getD p143.toNat ([], 0, [], false, 0, false, 0, [])).2.2.2.2.2.1, (IntKind.wrap .i64 ((IntKind.wrap .i64 ((IntKind.wrap .i64 (y148.1 + (1 : Int))) + (1 : Int))) + (1 : Int))), (z152.getD p143.toNat ([], 0, [], false, 0, false, 0, [])).2.2.2.2.2.2.2)) : List (List Int × Int × List Bool × Bool × Int × Bool × Int × (List (Int × Bool))))).bind fun z153 =>
      bif ((decide ((0 : Int) ≤ p143)) && (decide (p143 < (z153.length : Int)))) then
      (f_laws_markWaitS ((z153.getD p143.toNat ([], 0, [], false, 0, false, 0, [])).2.2.2.2.2.2.2) (IntKind.wrap .i64 ((IntKind.wrap .i64 ((IntKind.wrap .i64 ((IntKind.wrap .i64 (y148.1 + (1 : Int))) + (1 : Int))) + (1 : Int))) + (1 : Int)))).bind fun y154 =>
      (some ((z153.set p143.toNat ((z153.getD p143.toNat ([], 0, [], false, 0, false, 0, [])).1, (z153.getD p143.toNat ([], 0, [], false, 0, false, 0, [])).2.1, (z153.getD p143.toNat ([], 0, [], false, 0, false, 0, [])).2.2.1, (z153.getD p143.toNat ([], 0, [], false, 0, false, 0, [])).2.2.2.1, (z153.getD p143.toNat ([], 0, [], false, 0, false, 0, [])).2.2.2.2.1, (z153.getD p143.toNat ([], 0, [], false, 0, false, 0, [])).2.2.2.2.2.1, (z153.getD p143.toNat ([], 0, [], false, 0, false, 0, [])).2.2.2.2.2.2.1, y154.2)) : List (List Int × Int × List Bool × Bool × Int × Bool × Int × (List (Int × Bool))))).bind fun z155 =>
      f_laws_markHomeS.l0 n y154.1 p142 (IntKind.wrap .i64 (p143 + (1 : Int))) z155
      else none
      else none
      else none
      else none
      else none
      else none
      else none
      else none
    else
      some (p141, p142, p144)
noncomputable def f_laws_markHomeS (x0 : List (List Int × Int × List Bool × Bool × Int × Bool × Int × (List (Int × Bool)))) (x1 : Int) : Option (Int × (List (List Int × Int × List Bool × Bool × Int × Bool × Int × (List (Int × Bool))))) :=
  (f_laws_markHomeS.l0 N x1 0 0 x0).bind fun r156 =>
  some (r156.1, r156.2.2)
noncomputable def C154 : Con := ⟨[(.I, false, [(.sl R4)]), (.B, false, [(.int .i64)])], [(false, [(.int .i64)])], [(.sl R4), (.int .i64)], [(.int .i64), (.sl R4)], fun (p : (List (List Int × Int × List Bool × Bool × Int × Bool × Int × (List (Int × Bool)))) × Int) => f_laws_markHomeS p.1 p.2⟩
noncomputable def f_laws_markHomeS.l0.c : LoopCon := ⟨1000, 6, [0, 1, 4, 5], ⟨[(0, .ref 0 [] none), (1, .int .i64 0), (4, .int .i64 0), (5, .int .i64 0)], [(0, .row R4 [])], 1000⟩, [(.int .i64), (.int .i64), (.int .i64), (.sl R4)], [⟨.exit 0, [1, 4], ⟨[(1, .int .i64 0), (4, .int .i64 0)], [(0, .row R4 [])], 1000⟩, [(.int .i64), (.int .i64), (.sl R4)]⟩], fun (p : Int × Int × Int × (List (List Int × Int × List Bool × Bool × Int × Bool × Int × (List (Int × Bool))))) => f_laws_markHomeS.l0 N p.1 p.2.1 p.2.2.1 p.2.2.2⟩
noncomputable abbrev K154 : Cons := [(22, C22), (192, C192), (193, C193)]
noncomputable abbrev L154 : List (Nat × Loops) := [(154, [(2, f_laws_markHomeS.l0.c)])]
abbrev Q154 : List (Nat × List (Int × Nat) × Nat) := []
noncomputable abbrev X154 : Nat → Ctx := ctxOf tb K154 L154 Q154
theorem f_laws_markHomeS.l0.ok : ∀ n p, (fun (p : Int × Int × Int × (List (List Int × Int × List Bool × Bool × Int × Bool × Int × (List (Int × Bool))))) => f_laws_markHomeS.l0 n p.1 p.2.1 p.2.2.1 p.2.2.2) p = iterD (roundOf fs X154 6 154 2 false f_laws_markHomeS.l0.c) n p :=
  iter_of (l := fun n => fun (p : Int × Int × Int × (List (List Int × Int × List Bool × Bool × Int × Bool × Int × (List (Int × Bool))))) => f_laws_markHomeS.l0 n p.1 p.2.1 p.2.2.1 p.2.2.2) (fun _ => rfl) (fun n p => by kernel_rfl)
theorem E154 : ∀ x, funG fs X154 6 154 C154 x = C154.fn x := fun x => by kernel_rfl
theorem B154 : ConG Try.prog 154 C154 := ConG.make FS MIX TY (cons := K154) (L := L154) (ptrs := Q154) ⟨S22, S192, S193, trivial⟩ trivial ⟨⟨⟨N, fun p => f_laws_markHomeS.l0.ok N p⟩, trivial⟩, trivial⟩ rfl (by kernel_rfl) E154
theorem S154 : ConS Try.prog 154 C154 := B154.call (by kernel_rfl)
/-! laws.markMsgS: function 146 -/
noncomputable def f_laws_markMsgS.l0 : Nat → Int → Int → Int → (List (Int × Int × Bool × List Int)) → Option (Int × Int × (List (Int × Int × Bool × List Int)))
  | 0, _, _, _, _ => none
  | n + 1, p157, p158, p159, p160 =>
    bif (decide (p159 < (p160.length : Int))) then
      bif ((decide ((0 : Int) ≤ p159)) && (decide (p159 < (p160.length : Int)))) then
      (some ((p160.set p159.toNat (p157, (p160.getD p159.toNat (0, 0, false, [])).2.1, (p160.getD p159.toNat (0, 0, false, [])).2.2.1, (p160.getD p159.toNat (0, 0, false, [])).2.2.2)) : List (Int × Int × Bool × List Int))).bind fun z161 =>
      bif ((decide ((0 : Int) ≤ p159)) && (decide (p159 < (z161.length : Int)))) then
      (some ((z161.set p159.toNat ((z161.getD p159.toNat (0, 0, false, [])).1, (IntKind.wrap .i64 (p157 + (1 : Int))), (z161.getD p159.toNat (0, 0, false, [])).2.2.1, (z161.getD p159.toNat (0, 0, false, [])).2.2.2)) : List (Int × Int × Bool × List Int))).bind fun z162 =>
      bif ((decide ((0 : Int) ≤ p159)) && (decide (p159 < (z162.length : Int)))) then
      (some ((z162.set p159.toNat ((z162.getD p159.toNat (0, 0, false, [])).1, (z162.getD p159.toNat (0, 0, false, [])).2.1, (decide ((Int.tmod (IntKind.wrap .i64 ((IntKind.wrap .i64 (p157 + (1 : Int))) + (1 : Int))) (3 : Int)) = (0 : Int))), (z162.getD p159.toNat (0, 0, false, [])).2.2.2)) : List (Int × Int × Bool × List Int))).bind fun z163 =>
      bif ((decide ((0 : Int) ≤ p159)) && (decide (p159 < (z163.length : Int)))) then
      (f_laws_markIntS ((z163.getD p159.toNat (0, 0, false, [])).2.2.2) (IntKind.wrap .i64 ((IntKind.wrap .i64 ((IntKind.wrap .i64 (p157 + (1 : Int))) + (1 : Int))) + (1 : Int)))).bind fun y164 =>
      (some ((z163.set p159.toNat ((z163.getD p159.toNat (0, 0, false, [])).1, (z163.getD p159.toNat (0, 0, false, [])).2.1, (z163.getD p159.toNat (0, 0, false, [])).2.2.1, y164.2)) : List (Int × Int × Bool × List Int))).bind fun z165 =>
      f_laws_markMsgS.l0 n y164.1 p158 (IntKind.wrap .i64 (p159 + (1 : Int))) z165
      else none
      else none
      else none
      else none
    else
      some (p157, p158, p160)
noncomputable def f_laws_markMsgS (x0 : List (Int × Int × Bool × List Int)) (x1 : Int) : Option (Int × (List (Int × Int × Bool × List Int))) :=
  (f_laws_markMsgS.l0 N x1 0 0 x0).bind fun r166 =>
  some (r166.1, r166.2.2)
noncomputable def C146 : Con := ⟨[(.I, false, [(.sl R5)]), (.B, false, [(.int .i64)])], [(false, [(.int .i64)])], [(.sl R5), (.int .i64)], [(.int .i64), (.sl R5)], fun (p : (List (Int × Int × Bool × List Int)) × Int) => f_laws_markMsgS p.1 p.2⟩
noncomputable def f_laws_markMsgS.l0.c : LoopCon := ⟨1000, 6, [0, 1, 4, 5], ⟨[(0, .ref 0 [] none), (1, .int .i64 0), (4, .int .i64 0), (5, .int .i64 0)], [(0, .row R5 [])], 1000⟩, [(.int .i64), (.int .i64), (.int .i64), (.sl R5)], [⟨.exit 0, [1, 4], ⟨[(1, .int .i64 0), (4, .int .i64 0)], [(0, .row R5 [])], 1000⟩, [(.int .i64), (.int .i64), (.sl R5)]⟩], fun (p : Int × Int × Int × (List (Int × Int × Bool × List Int))) => f_laws_markMsgS.l0 N p.1 p.2.1 p.2.2.1 p.2.2.2⟩
noncomputable abbrev K146 : Cons := [(22, C22)]
noncomputable abbrev L146 : List (Nat × Loops) := [(146, [(2, f_laws_markMsgS.l0.c)])]
abbrev Q146 : List (Nat × List (Int × Nat) × Nat) := []
noncomputable abbrev X146 : Nat → Ctx := ctxOf tb K146 L146 Q146
theorem f_laws_markMsgS.l0.ok : ∀ n p, (fun (p : Int × Int × Int × (List (Int × Int × Bool × List Int))) => f_laws_markMsgS.l0 n p.1 p.2.1 p.2.2.1 p.2.2.2) p = iterD (roundOf fs X146 6 146 2 false f_laws_markMsgS.l0.c) n p :=
  iter_of (l := fun n => fun (p : Int × Int × Int × (List (Int × Int × Bool × List Int))) => f_laws_markMsgS.l0 n p.1 p.2.1 p.2.2.1 p.2.2.2) (fun _ => rfl) (fun n p => by kernel_rfl)
theorem E146 : ∀ x, funG fs X146 6 146 C146 x = C146.fn x := fun x => by kernel_rfl
theorem B146 : ConG Try.prog 146 C146 := ConG.make FS MIX TY (cons := K146) (L := L146) (ptrs := Q146) ⟨S22, trivial⟩ trivial ⟨⟨⟨N, fun p => f_laws_markMsgS.l0.ok N p⟩, trivial⟩, trivial⟩ rfl (by kernel_rfl) E146
theorem S146 : ConS Try.prog 146 C146 := B146.call (by kernel_rfl)
/-! laws.markSenderS: function 155 -/
noncomputable def f_laws_markSenderS.l0 : Nat → Int → Int → Int → (List (Int × (List (Int × Int × Bool × List Int)))) → Option (Int × Int × (List (Int × (List (Int × Int × Bool × List Int)))))
  | 0, _, _, _, _ => none
  | n + 1, p167, p168, p169, p170 =>
    bif (decide (p169 < (p170.length : Int))) then
      bif ((decide ((0 : Int) ≤ p169)) && (decide (p169 < (p170.length : Int)))) then
      (some ((p170.set p169.toNat (p167, (p170.getD p169.toNat (0, [])).2)) : List (Int × (List (Int × Int × Bool × List Int))))).bind fun z171 =>
      bif ((decide ((0 : Int) ≤ p169)) && (decide (p169 < (z171.length : Int)))) then
      (f_laws_markMsgS ((z171.getD p169.toNat (0, [])).2) (IntKind.wrap .i64 (p167 + (1 : Int)))).bind fun y172 =>
      (some ((z171.set p169.toNat ((z171.getD p169.toNat (0, [])).1, y172.2)) : List (Int × (List (Int × Int × Bool × List Int))))).bind fun z173 =>
      f_laws_markSenderS.l0 n y172.1 p168 (IntKind.wrap .i64 (p169 + (1 : Int))) z173
      else none
      else none
    else
      some (p167, p168, p170)
noncomputable def f_laws_markSenderS (x0 : List (Int × (List (Int × Int × Bool × List Int)))) (x1 : Int) : Option (Int × (List (Int × (List (Int × Int × Bool × List Int))))) :=
  (f_laws_markSenderS.l0 N x1 0 0 x0).bind fun r174 =>
  some (r174.1, r174.2.2)
noncomputable def C155 : Con := ⟨[(.I, false, [(.sl R6)]), (.B, false, [(.int .i64)])], [(false, [(.int .i64)])], [(.sl R6), (.int .i64)], [(.int .i64), (.sl R6)], fun (p : (List (Int × (List (Int × Int × Bool × List Int)))) × Int) => f_laws_markSenderS p.1 p.2⟩
noncomputable def f_laws_markSenderS.l0.c : LoopCon := ⟨1000, 6, [0, 1, 4, 5], ⟨[(0, .ref 0 [] none), (1, .int .i64 0), (4, .int .i64 0), (5, .int .i64 0)], [(0, .row R6 [])], 1000⟩, [(.int .i64), (.int .i64), (.int .i64), (.sl R6)], [⟨.exit 0, [1, 4], ⟨[(1, .int .i64 0), (4, .int .i64 0)], [(0, .row R6 [])], 1000⟩, [(.int .i64), (.int .i64), (.sl R6)]⟩], fun (p : Int × Int × Int × (List (Int × (List (Int × Int × Bool × List Int))))) => f_laws_markSenderS.l0 N p.1 p.2.1 p.2.2.1 p.2.2.2⟩
noncomputable abbrev K155 : Cons := [(146, C146)]
noncomputable abbrev L155 : List (Nat × Loops) := [(155, [(2, f_laws_markSenderS.l0.c)])]
abbrev Q155 : List (Nat × List (Int × Nat) × Nat) := []
noncomputable abbrev X155 : Nat → Ctx := ctxOf tb K155 L155 Q155
theorem f_laws_markSenderS.l0.ok : ∀ n p, (fun (p : Int × Int × Int × (List (Int × (List (Int × Int × Bool × List Int))))) => f_laws_markSenderS.l0 n p.1 p.2.1 p.2.2.1 p.2.2.2) p = iterD (roundOf fs X155 6 155 2 false f_laws_markSenderS.l0.c) n p :=
  iter_of (l := fun n => fun (p : Int × Int × Int × (List (Int × (List (Int × Int × Bool × List Int))))) => f_laws_markSenderS.l0 n p.1 p.2.1 p.2.2.1 p.2.2.2) (fun _ => rfl) (fun n p => by kernel_rfl)
theorem E155 : ∀ x, funG fs X155 6 155 C155 x = C155.fn x := fun x => by kernel_rfl
theorem B155 : ConG Try.prog 155 C155 := ConG.make FS MIX TY (cons := K155) (L := L155) (ptrs := Q155) ⟨S146, trivial⟩ trivial ⟨⟨⟨N, fun p => f_laws_markSenderS.l0.ok N p⟩, trivial⟩, trivial⟩ rfl (by kernel_rfl) E155
theorem S155 : ConS Try.prog 155 C155 := B155.call (by kernel_rfl)
/-! laws.markReceiverS: function 156 -/
noncomputable def f_laws_markReceiverS.l0 : Nat → Int → Int → Int → (List Int) → Option (Int × Int × List Int)
  | 0, _, _, _, _ => none
  | n + 1, p175, p176, p177, p178 =>
    bif (decide (p177 < (p178.length : Int))) then
      bif ((decide ((0 : Int) ≤ p177)) && (decide (p177 < (p178.length : Int)))) then
      (some ((p178.set p177.toNat p175) : List Int)).bind fun z179 =>
      f_laws_markReceiverS.l0 n (IntKind.wrap .i64 (p175 + (1 : Int))) p176 (IntKind.wrap .i64 (p177 + (1 : Int))) z179
      else none
    else
      some (p175, p176, p178)
noncomputable def f_laws_markReceiverS (x0 : List Int) (x1 : Int) : Option (Int × List Int) :=
  (f_laws_markReceiverS.l0 N x1 0 0 x0).bind fun r180 =>
  some (r180.1, r180.2.2)
noncomputable def C156 : Con := ⟨[(.I, false, [(.sl R0)]), (.B, false, [(.int .i64)])], [(false, [(.int .i64)])], [(.sl R0), (.int .i64)], [(.int .i64), (.sl R0)], fun (p : List Int × Int) => f_laws_markReceiverS p.1 p.2⟩
noncomputable def f_laws_markReceiverS.l0.c : LoopCon := ⟨1000, 6, [0, 1, 4, 5], ⟨[(0, .ref 0 [] none), (1, .int .i64 0), (4, .int .i64 0), (5, .int .i64 0)], [(0, .row R0 [])], 1000⟩, [(.int .i64), (.int .i64), (.int .i64), (.sl R0)], [⟨.exit 0, [1, 4], ⟨[(1, .int .i64 0), (4, .int .i64 0)], [(0, .row R0 [])], 1000⟩, [(.int .i64), (.int .i64), (.sl R0)]⟩], fun (p : Int × Int × Int × List Int) => f_laws_markReceiverS.l0 N p.1 p.2.1 p.2.2.1 p.2.2.2⟩
noncomputable abbrev K156 : Cons := []
noncomputable abbrev L156 : List (Nat × Loops) := [(156, [(2, f_laws_markReceiverS.l0.c)])]
abbrev Q156 : List (Nat × List (Int × Nat) × Nat) := []
noncomputable abbrev X156 : Nat → Ctx := ctxOf tb K156 L156 Q156
theorem f_laws_markReceiverS.l0.ok : ∀ n p, (fun (p : Int × Int × Int × List Int) => f_laws_markReceiverS.l0 n p.1 p.2.1 p.2.2.1 p.2.2.2) p = iterD (roundOf fs X156 6 156 2 false f_laws_markReceiverS.l0.c) n p :=
  iter_of (l := fun n => fun (p : Int × Int × Int × List Int) => f_laws_markReceiverS.l0 n p.1 p.2.1 p.2.2.1 p.2.2.2) (fun _ => rfl) (fun n p => by kernel_rfl)
theorem E156 : ∀ x, funG fs X156 6 156 C156 x = C156.fn x := fun x => by kernel_rfl
theorem B156 : ConG Try.prog 156 C156 := ConG.make FS MIX TY (cons := K156) (L := L156) (ptrs := Q156) trivial trivial ⟨⟨⟨N, fun p => f_laws_markReceiverS.l0.ok N p⟩, trivial⟩, trivial⟩ rfl (by kernel_rfl) E156
theorem S156 : ConS Try.prog 156 C156 := B156.call (by kernel_rfl)
/-! laws.markNode: function 83 -/
noncomputable def f_laws_markNode (x0 : Int) (x1 : List (Int × List Int × Bool)) (x2 : List (List Int × Int × List Bool × Bool × Int × Bool × Int × (List (Int × Bool)))) (x3 : List (Int × (List (Int × Int × Bool × List Int)))) (x4 : List Int) (x5 : Int) : Option (Int × (List (Int × List Int × Bool)) × (List (List Int × Int × List Bool × Bool × Int × Bool × Int × (List (Int × Bool)))) × (List (Int × (List (Int × Int × Bool × List Int)))) × List Int) :=
  (f_laws_markFrameS x1 x5).bind fun y181 =>
  (some (y181.2 : List (Int × List Int × Bool))).bind fun z182 =>
  (f_laws_markHomeS x2 y181.1).bind fun y183 =>
  (some (y183.2 : List (List Int × Int × List Bool × Bool × Int × Bool × Int × (List (Int × Bool))))).bind fun z184 =>
  (f_laws_markSenderS x3 y183.1).bind fun y185 =>
  (some (y185.2 : List (Int × (List (Int × Int × Bool × List Int))))).bind fun z186 =>
  (f_laws_markReceiverS x4 y185.1).bind fun y187 =>
  (some (y187.2 : List Int)).bind fun z188 =>
  some (y187.1, z182, z184, z186, z188)
noncomputable def C83 : Con := ⟨[(.I, true, [(.int .i64), (.sl R3), (.sl R4), (.sl R6), (.sl R0)]), (.B, false, [(.int .i64)])], [(false, [(.int .i64)])], [(.int .i64), (.sl R3), (.sl R4), (.sl R6), (.sl R0), (.int .i64)], [(.int .i64), (.sl R3), (.sl R4), (.sl R6), (.sl R0)], fun (p : Int × (List (Int × List Int × Bool)) × (List (List Int × Int × List Bool × Bool × Int × Bool × Int × (List (Int × Bool)))) × (List (Int × (List (Int × Int × Bool × List Int)))) × List Int × Int) => f_laws_markNode p.1 p.2.1 p.2.2.1 p.2.2.2.1 p.2.2.2.2.1 p.2.2.2.2.2⟩
noncomputable abbrev K83 : Cons := [(153, C153), (154, C154), (155, C155), (156, C156)]
noncomputable abbrev L83 : List (Nat × Loops) := []
abbrev Q83 : List (Nat × List (Int × Nat) × Nat) := []
noncomputable abbrev X83 : Nat → Ctx := ctxOf tb K83 L83 Q83
theorem E83 : ∀ x, funG fs X83 6 83 C83 x = C83.fn x := fun x => by kernel_rfl
theorem B83 : ConG Try.prog 83 C83 := ConG.make FS MIX TY (cons := K83) (L := L83) (ptrs := Q83) ⟨S153, S154, S155, S156, trivial⟩ trivial trivial rfl (by kernel_rfl) E83
theorem S83 : ConS Try.prog 83 C83 := B83.call (by kernel_rfl)
/-! laws.heldIntS: function 24 -/
noncomputable def f_laws_heldIntS.l0 : Nat → (List Int) → Int → Int → Int → Option ((Int) ⊕ (Int × Int))
  | 0, _, _, _, _ => none
  | n + 1, p189, p190, p191, p192 =>
    bif (decide (p192 < (p189.length : Int))) then
      bif ((decide ((0 : Int) ≤ p192)) && (decide (p192 < (p189.length : Int)))) then
      bif (!(decide ((p189.getD p192.toNat 0) = p190))) then
        some (.inl (-1))
      else
        f_laws_heldIntS.l0 n p189 (IntKind.wrap .i64 (p190 + (1 : Int))) p191 (IntKind.wrap .i64 (p192 + (1 : Int)))
      else none
    else
      some (.inr (p190, p191))
noncomputable def f_laws_heldIntS (x0 : List Int) (x1 : Int) : Option (Int) :=
  (f_laws_heldIntS.l0 N x0 x1 0 0).bind fun r193 =>
  cs r193 (fun a194 =>
    some a194) (fun b195 =>
    some b195.1)
noncomputable def C24 : Con := ⟨[(.B, false, [(.sl R0)]), (.B, false, [(.int .i64)])], [(false, [(.int .i64)])], [(.sl R0), (.int .i64)], [(.int .i64)], fun (p : List Int × Int) => f_laws_heldIntS p.1 p.2⟩
noncomputable def f_laws_heldIntS.l0.c : LoopCon := ⟨1000, 6, [0, 1, 4, 5], ⟨[(0, .bor none R0 []), (1, .int .i64 0), (4, .int .i64 0), (5, .int .i64 0)], [], 1000⟩, [(.sl R0), (.int .i64), (.int .i64), (.int .i64)], [⟨.ret, [4], ⟨[(4, .int .i64 0)], [], 1000⟩, [(.int .i64)]⟩, ⟨.exit 0, [1, 4], ⟨[(1, .int .i64 0), (4, .int .i64 0)], [], 1000⟩, [(.int .i64), (.int .i64)]⟩], fun (p : List Int × Int × Int × Int) => f_laws_heldIntS.l0 N p.1 p.2.1 p.2.2.1 p.2.2.2⟩
noncomputable abbrev K24 : Cons := []
noncomputable abbrev L24 : List (Nat × Loops) := [(24, [(2, f_laws_heldIntS.l0.c)])]
abbrev Q24 : List (Nat × List (Int × Nat) × Nat) := []
noncomputable abbrev X24 : Nat → Ctx := ctxOf tb K24 L24 Q24
theorem f_laws_heldIntS.l0.ok : ∀ n p, (fun (p : List Int × Int × Int × Int) => f_laws_heldIntS.l0 n p.1 p.2.1 p.2.2.1 p.2.2.2) p = iterD (roundOf fs X24 6 24 2 false f_laws_heldIntS.l0.c) n p :=
  iter_of (l := fun n => fun (p : List Int × Int × Int × Int) => f_laws_heldIntS.l0 n p.1 p.2.1 p.2.2.1 p.2.2.2) (fun _ => rfl) (fun n p => by kernel_rfl)
theorem E24 : ∀ x, funRun fs X24 6 24 C24 x = C24.fn x := fun x => by kernel_rfl
theorem B24 : ConB Try.prog 24 C24 := ConB.make FS MIX TY (cons := K24) (L := L24) (ptrs := Q24) trivial trivial ⟨⟨⟨N, fun p => f_laws_heldIntS.l0.ok N p⟩, trivial⟩, trivial⟩ rfl rfl E24
theorem S24 : ConS Try.prog 24 C24 := B24.call rfl
/-! laws.heldFrameS: function 157 -/
noncomputable def f_laws_heldFrameS.l0 : Nat → (List (Int × List Int × Bool)) → Int → Int → Int → Option ((Int) ⊕ (Int × Int))
  | 0, _, _, _, _ => none
  | n + 1, p196, p197, p198, p199 =>
    bif (decide (p199 < (p196.length : Int))) then
      bif ((decide ((0 : Int) ≤ p199)) && (decide (p199 < (p196.length : Int)))) then
      bif (!(decide (((p196.getD p199.toNat (0, [], false)).1) = p197))) then
        some (.inl (-1))
      else
        bif ((decide ((0 : Int) ≤ p199)) && (decide (p199 < (p196.length : Int)))) then
        (f_laws_heldIntS ((p196.getD p199.toNat (0, [], false)).2.1) (IntKind.wrap .i64 (p197 + (1 : Int)))).bind fun y200 =>
        bif (decide (y200 < (0 : Int))) then
          some (.inl (-1))
        else
          bif ((decide ((0 : Int) ≤ p199)) && (decide (p199 < (p196.length : Int)))) then
          bif (!(((p196.getD p199.toNat (0, [], false)).2.2) == (decide ((Int.tmod y200 (3 : Int)) = (0 : Int))))) then
            some (.inl (-1))
          else
            f_laws_heldFrameS.l0 n p196 (IntKind.wrap .i64 (y200 + (1 : Int))) p198 (IntKind.wrap .i64 (p199 + (1 : Int)))
          else none
        else none
      else none
    else
      some (.inr (p197, p198))
noncomputable def f_laws_heldFrameS (x0 : List (Int × List Int × Bool)) (x1 : Int) : Option (Int) :=
  (f_laws_heldFrameS.l0 N x0 x1 0 0).bind fun r201 =>
  cs r201 (fun a202 =>
    some a202) (fun b203 =>
    some b203.1)
noncomputable def C157 : Con := ⟨[(.B, false, [(.sl R3)]), (.B, false, [(.int .i64)])], [(false, [(.int .i64)])], [(.sl R3), (.int .i64)], [(.int .i64)], fun (p : (List (Int × List Int × Bool)) × Int) => f_laws_heldFrameS p.1 p.2⟩
noncomputable def f_laws_heldFrameS.l0.c : LoopCon := ⟨1000, 6, [0, 1, 4, 5], ⟨[(0, .bor none R3 []), (1, .int .i64 0), (4, .int .i64 0), (5, .int .i64 0)], [], 1000⟩, [(.sl R3), (.int .i64), (.int .i64), (.int .i64)], [⟨.ret, [4], ⟨[(4, .int .i64 0)], [], 1000⟩, [(.int .i64)]⟩, ⟨.exit 0, [1, 4], ⟨[(1, .int .i64 0), (4, .int .i64 0)], [], 1000⟩, [(.int .i64), (.int .i64)]⟩], fun (p : (List (Int × List Int × Bool)) × Int × Int × Int) => f_laws_heldFrameS.l0 N p.1 p.2.1 p.2.2.1 p.2.2.2⟩
noncomputable abbrev K157 : Cons := [(24, C24)]
noncomputable abbrev L157 : List (Nat × Loops) := [(157, [(2, f_laws_heldFrameS.l0.c)])]
abbrev Q157 : List (Nat × List (Int × Nat) × Nat) := []
noncomputable abbrev X157 : Nat → Ctx := ctxOf tb K157 L157 Q157
theorem f_laws_heldFrameS.l0.ok : ∀ n p, (fun (p : (List (Int × List Int × Bool)) × Int × Int × Int) => f_laws_heldFrameS.l0 n p.1 p.2.1 p.2.2.1 p.2.2.2) p = iterD (roundOf fs X157 6 157 2 false f_laws_heldFrameS.l0.c) n p :=
  iter_of (l := fun n => fun (p : (List (Int × List Int × Bool)) × Int × Int × Int) => f_laws_heldFrameS.l0 n p.1 p.2.1 p.2.2.1 p.2.2.2) (fun _ => rfl) (fun n p => by kernel_rfl)
theorem E157 : ∀ x, funRun fs X157 6 157 C157 x = C157.fn x := fun x => by kernel_rfl
theorem B157 : ConB Try.prog 157 C157 := ConB.make FS MIX TY (cons := K157) (L := L157) (ptrs := Q157) ⟨S24, trivial⟩ trivial ⟨⟨⟨N, fun p => f_laws_heldFrameS.l0.ok N p⟩, trivial⟩, trivial⟩ rfl rfl E157
theorem S157 : ConS Try.prog 157 C157 := B157.call rfl
/-! laws.heldBoolS: function 194 -/
noncomputable def f_laws_heldBoolS.l0 : Nat → (List Bool) → Int → Int → Int → Option ((Int) ⊕ (Int × Int))
  | 0, _, _, _, _ => none
  | n + 1, p204, p205, p206, p207 =>
    bif (decide (p207 < (p204.length : Int))) then
      bif ((decide ((0 : Int) ≤ p207)) && (decide (p207 < (p204.length : Int)))) then
      bif (!((p204.getD p207.toNat false) == (decide ((Int.tmod p205 (3 : Int)) = (0 : Int))))) then
        some (.inl (-1))
      else
        f_laws_heldBoolS.l0 n p204 (IntKind.wrap .i64 (p205 + (1 : Int))) p206 (IntKind.wrap .i64 (p207 + (1 : Int)))
      else none
    else
      some (.inr (p205, p206))
noncomputable def f_laws_heldBoolS (x0 : List Bool) (x1 : Int) : Option (Int) :=
  (f_laws_heldBoolS.l0 N x0 x1 0 0).bind fun r208 =>
  cs r208 (fun a209 =>
    some a209) (fun b210 =>
    some b210.1)
noncomputable def C194 : Con := ⟨[(.B, false, [(.sl R1)]), (.B, false, [(.int .i64)])], [(false, [(.int .i64)])], [(.sl R1), (.int .i64)], [(.int .i64)], fun (p : List Bool × Int) => f_laws_heldBoolS p.1 p.2⟩
noncomputable def f_laws_heldBoolS.l0.c : LoopCon := ⟨1000, 6, [0, 1, 4, 5], ⟨[(0, .bor none R1 []), (1, .int .i64 0), (4, .int .i64 0), (5, .int .i64 0)], [], 1000⟩, [(.sl R1), (.int .i64), (.int .i64), (.int .i64)], [⟨.ret, [4], ⟨[(4, .int .i64 0)], [], 1000⟩, [(.int .i64)]⟩, ⟨.exit 0, [1, 4], ⟨[(1, .int .i64 0), (4, .int .i64 0)], [], 1000⟩, [(.int .i64), (.int .i64)]⟩], fun (p : List Bool × Int × Int × Int) => f_laws_heldBoolS.l0 N p.1 p.2.1 p.2.2.1 p.2.2.2⟩
noncomputable abbrev K194 : Cons := []
noncomputable abbrev L194 : List (Nat × Loops) := [(194, [(2, f_laws_heldBoolS.l0.c)])]
abbrev Q194 : List (Nat × List (Int × Nat) × Nat) := []
noncomputable abbrev X194 : Nat → Ctx := ctxOf tb K194 L194 Q194
theorem f_laws_heldBoolS.l0.ok : ∀ n p, (fun (p : List Bool × Int × Int × Int) => f_laws_heldBoolS.l0 n p.1 p.2.1 p.2.2.1 p.2.2.2) p = iterD (roundOf fs X194 6 194 2 false f_laws_heldBoolS.l0.c) n p :=
  iter_of (l := fun n => fun (p : List Bool × Int × Int × Int) => f_laws_heldBoolS.l0 n p.1 p.2.1 p.2.2.1 p.2.2.2) (fun _ => rfl) (fun n p => by kernel_rfl)
theorem E194 : ∀ x, funRun fs X194 6 194 C194 x = C194.fn x := fun x => by kernel_rfl
theorem B194 : ConB Try.prog 194 C194 := ConB.make FS MIX TY (cons := K194) (L := L194) (ptrs := Q194) trivial trivial ⟨⟨⟨N, fun p => f_laws_heldBoolS.l0.ok N p⟩, trivial⟩, trivial⟩ rfl rfl E194
theorem S194 : ConS Try.prog 194 C194 := B194.call rfl
/-! laws.heldWaitS: function 195 -/
noncomputable def f_laws_heldWaitS.l0 : Nat → (List (Int × Bool)) → Int → Int → Int → Option ((Int) ⊕ (Int × Int))
  | 0, _, _, _, _ => none
  | n + 1, p211, p212, p213, p214 =>
    bif (decide (p214 < (p211.length : Int))) then
      bif ((decide ((0 : Int) ≤ p214)) && (decide (p214 < (p211.length : Int)))) then
      bif (!(decide (((p211.getD p214.toNat (0, false)).1) = p212))) then
        some (.inl (-1))
      else
        bif ((decide ((0 : Int) ≤ p214)) && (decide (p214 < (p211.length : Int)))) then
        bif (!(((p211.getD p214.toNat (0, false)).2) == (decide ((Int.tmod (IntKind.wrap .i64 (p212 + (1 : Int))) (3 : Int)) = (0 : Int))))) then
          some (.inl (-1))
        else
          f_laws_heldWaitS.l0 n p211 (IntKind.wrap .i64 ((IntKind.wrap .i64 (p212 + (1 : Int))) + (1 : Int))) p213 (IntKind.wrap .i64 (p214 + (1 : Int)))
        else none
      else none
    else
      some (.inr (p212, p213))
noncomputable def f_laws_heldWaitS (x0 : List (Int × Bool)) (x1 : Int) : Option (Int) :=
  (f_laws_heldWaitS.l0 N x0 x1 0 0).bind fun r215 =>
  cs r215 (fun a216 =>
    some a216) (fun b217 =>
    some b217.1)
noncomputable def C195 : Con := ⟨[(.B, false, [(.sl R2)]), (.B, false, [(.int .i64)])], [(false, [(.int .i64)])], [(.sl R2), (.int .i64)], [(.int .i64)], fun (p : (List (Int × Bool)) × Int) => f_laws_heldWaitS p.1 p.2⟩
noncomputable def f_laws_heldWaitS.l0.c : LoopCon := ⟨1000, 6, [0, 1, 4, 5], ⟨[(0, .bor none R2 []), (1, .int .i64 0), (4, .int .i64 0), (5, .int .i64 0)], [], 1000⟩, [(.sl R2), (.int .i64), (.int .i64), (.int .i64)], [⟨.ret, [4], ⟨[(4, .int .i64 0)], [], 1000⟩, [(.int .i64)]⟩, ⟨.exit 0, [1, 4], ⟨[(1, .int .i64 0), (4, .int .i64 0)], [], 1000⟩, [(.int .i64), (.int .i64)]⟩], fun (p : (List (Int × Bool)) × Int × Int × Int) => f_laws_heldWaitS.l0 N p.1 p.2.1 p.2.2.1 p.2.2.2⟩
noncomputable abbrev K195 : Cons := []
noncomputable abbrev L195 : List (Nat × Loops) := [(195, [(2, f_laws_heldWaitS.l0.c)])]
abbrev Q195 : List (Nat × List (Int × Nat) × Nat) := []
noncomputable abbrev X195 : Nat → Ctx := ctxOf tb K195 L195 Q195
theorem f_laws_heldWaitS.l0.ok : ∀ n p, (fun (p : (List (Int × Bool)) × Int × Int × Int) => f_laws_heldWaitS.l0 n p.1 p.2.1 p.2.2.1 p.2.2.2) p = iterD (roundOf fs X195 6 195 2 false f_laws_heldWaitS.l0.c) n p :=
  iter_of (l := fun n => fun (p : (List (Int × Bool)) × Int × Int × Int) => f_laws_heldWaitS.l0 n p.1 p.2.1 p.2.2.1 p.2.2.2) (fun _ => rfl) (fun n p => by kernel_rfl)
theorem E195 : ∀ x, funRun fs X195 6 195 C195 x = C195.fn x := fun x => by kernel_rfl
theorem B195 : ConB Try.prog 195 C195 := ConB.make FS MIX TY (cons := K195) (L := L195) (ptrs := Q195) trivial trivial ⟨⟨⟨N, fun p => f_laws_heldWaitS.l0.ok N p⟩, trivial⟩, trivial⟩ rfl rfl E195
theorem S195 : ConS Try.prog 195 C195 := B195.call rfl
/-! laws.heldHomeS: function 158 -/
noncomputable def f_laws_heldHomeS.l0 : Nat → (List (List Int × Int × List Bool × Bool × Int × Bool × Int × (List (Int × Bool)))) → Int → Int → Int → Option ((Int) ⊕ (Int × Int))
  | 0, _, _, _, _ => none
  | n + 1, p218, p219, p220, p221 =>
    bif (decide (p221 < (p218.length : Int))) then
      bif ((decide ((0 : Int) ≤ p221)) && (decide (p221 < (p218.length : Int)))) then
      (f_laws_heldIntS ((p218.getD p221.toNat ([], 0, [], false, 0, false, 0, [])).1) p219).bind fun y222 =>
      bif (decide (y222 < (0 : Int))) then
        some (.inl (-1))
      else
        bif ((decide ((0 : Int) ≤ p221)) && (decide (p221 < (p218.length : Int)))) then
        bif (!(decide (((p218.getD p221.toNat ([], 0, [], false, 0, false, 0, [])).2.1) = y222))) then
          some (.inl (-1))
        else
          bif ((decide ((0 : Int) ≤ p221)) && (decide (p221 < (p218.length : Int)))) then
          (f_laws_heldBoolS ((p218.getD p221.toNat ([], 0, [], false, 0, false, 0, [])).2.2.1) (IntKind.wrap .i64 (y222 + (1 : Int)))).bind fun y223 =>
          bif (decide (y223 < (0 : Int))) then
            some (.inl (-1))
          else
            bif ((decide ((0 : Int) ≤ p221)) && (decide (p221 < (p218.length : Int)))) then
            bif (!(((p218.getD p221.toNat ([], 0, [], false, 0, false, 0, [])).2.2.2.1) == (decide ((Int.tmod y223 (3 : Int)) = (0 : Int))))) then
              some (.inl (-1))
            else
              bif ((decide ((0 : Int) ≤ p221)) && (decide (p221 < (p218.length : Int)))) then
              bif (!(decide (((p218.getD p221.toNat ([], 0, [], false, 0, false, 0, [])).2.2.2.2.1) = (IntKind.wrap .i64 (y223 + (1 : Int)))))) then
                some (.inl (-1))
              else
                bif ((decide ((0 : Int) ≤ p221)) && (decide (p221 < (p218.length : Int)))) then
                bif (!(((p218.getD p221.toNat ([], 0, [], false, 0, false, 0, [])).2.2.2.2.2.1) == (decide ((Int.tmod (IntKind.wrap .i64 ((IntKind.wrap .i64 (y223 + (1 : Int))) + (1 : Int))) (3 : Int)) = (0 : Int))))) then
                  some (.inl (-1))
                else
                  bif ((decide ((0 : Int) ≤ p221)) && (decide (p221 < (p218.length : Int)))) then
                  bif (!(decide (((p218.getD p221.toNat ([], 0, [], false, 0, false, 0, [])).2.2.2.2.2.2.1) = (IntKind.wrap .i64 ((IntKind.wrap .i64 ((IntKind.wrap .i64 (y223 + (1 : Int))) + (1 : Int))) + (1 : Int)))))) then
                    some (.inl (-1))
                  else
                    bif ((decide ((0 : Int) ≤ p221)) && (decide (p221 < (p218.length : Int)))) then
                    (f_laws_heldWaitS ((p218.getD p221.toNat ([], 0, [], false, 0, false, 0, [])).2.2.2.2.2.2.2) (IntKind.wrap .i64 ((IntKind.wrap .i64 ((IntKind.wrap .i64 ((IntKind.wrap .i64 (y223 + (1 : Int))) + (1 : Int))) + (1 : Int))) + (1 : Int)))).bind fun y224 =>
                    bif (decide (y224 < (0 : Int))) then
                      some (.inl (-1))
                    else
                      f_laws_heldHomeS.l0 n p218 y224 p220 (IntKind.wrap .i64 (p221 + (1 : Int)))
                    else none
                  else none
                else none
              else none
            else none
          else none
        else none
      else none
    else
      some (.inr (p219, p220))
noncomputable def f_laws_heldHomeS (x0 : List (List Int × Int × List Bool × Bool × Int × Bool × Int × (List (Int × Bool)))) (x1 : Int) : Option (Int) :=
  (f_laws_heldHomeS.l0 N x0 x1 0 0).bind fun r225 =>
  cs r225 (fun a226 =>
    some a226) (fun b227 =>
    some b227.1)
noncomputable def C158 : Con := ⟨[(.B, false, [(.sl R4)]), (.B, false, [(.int .i64)])], [(false, [(.int .i64)])], [(.sl R4), (.int .i64)], [(.int .i64)], fun (p : (List (List Int × Int × List Bool × Bool × Int × Bool × Int × (List (Int × Bool)))) × Int) => f_laws_heldHomeS p.1 p.2⟩
noncomputable def f_laws_heldHomeS.l0.c : LoopCon := ⟨1000, 6, [0, 1, 4, 5], ⟨[(0, .bor none R4 []), (1, .int .i64 0), (4, .int .i64 0), (5, .int .i64 0)], [], 1000⟩, [(.sl R4), (.int .i64), (.int .i64), (.int .i64)], [⟨.ret, [4], ⟨[(4, .int .i64 0)], [], 1000⟩, [(.int .i64)]⟩, ⟨.exit 0, [1, 4], ⟨[(1, .int .i64 0), (4, .int .i64 0)], [], 1000⟩, [(.int .i64), (.int .i64)]⟩], fun (p : (List (List Int × Int × List Bool × Bool × Int × Bool × Int × (List (Int × Bool)))) × Int × Int × Int) => f_laws_heldHomeS.l0 N p.1 p.2.1 p.2.2.1 p.2.2.2⟩
noncomputable abbrev K158 : Cons := [(24, C24), (194, C194), (195, C195)]
noncomputable abbrev L158 : List (Nat × Loops) := [(158, [(2, f_laws_heldHomeS.l0.c)])]
abbrev Q158 : List (Nat × List (Int × Nat) × Nat) := []
noncomputable abbrev X158 : Nat → Ctx := ctxOf tb K158 L158 Q158
theorem f_laws_heldHomeS.l0.ok : ∀ n p, (fun (p : (List (List Int × Int × List Bool × Bool × Int × Bool × Int × (List (Int × Bool)))) × Int × Int × Int) => f_laws_heldHomeS.l0 n p.1 p.2.1 p.2.2.1 p.2.2.2) p = iterD (roundOf fs X158 6 158 2 false f_laws_heldHomeS.l0.c) n p :=
  iter_of (l := fun n => fun (p : (List (List Int × Int × List Bool × Bool × Int × Bool × Int × (List (Int × Bool)))) × Int × Int × Int) => f_laws_heldHomeS.l0 n p.1 p.2.1 p.2.2.1 p.2.2.2) (fun _ => rfl) (fun n p => by kernel_rfl)
theorem E158 : ∀ x, funRun fs X158 6 158 C158 x = C158.fn x := fun x => by kernel_rfl
theorem B158 : ConB Try.prog 158 C158 := ConB.make FS MIX TY (cons := K158) (L := L158) (ptrs := Q158) ⟨S24, S194, S195, trivial⟩ trivial ⟨⟨⟨N, fun p => f_laws_heldHomeS.l0.ok N p⟩, trivial⟩, trivial⟩ rfl rfl E158
theorem S158 : ConS Try.prog 158 C158 := B158.call rfl
/-! laws.heldMsgS: function 147 -/
noncomputable def f_laws_heldMsgS.l0 : Nat → (List (Int × Int × Bool × List Int)) → Int → Int → Int → Option ((Int) ⊕ (Int × Int))
  | 0, _, _, _, _ => none
  | n + 1, p228, p229, p230, p231 =>
    bif (decide (p231 < (p228.length : Int))) then
      bif ((decide ((0 : Int) ≤ p231)) && (decide (p231 < (p228.length : Int)))) then
      bif (!(decide (((p228.getD p231.toNat (0, 0, false, [])).1) = p229))) then
        some (.inl (-1))
      else
        bif ((decide ((0 : Int) ≤ p231)) && (decide (p231 < (p228.length : Int)))) then
        bif (!(decide (((p228.getD p231.toNat (0, 0, false, [])).2.1) = (IntKind.wrap .i64 (p229 + (1 : Int)))))) then
          some (.inl (-1))
        else
          bif ((decide ((0 : Int) ≤ p231)) && (decide (p231 < (p228.length : Int)))) then
          bif (!(((p228.getD p231.toNat (0, 0, false, [])).2.2.1) == (decide ((Int.tmod (IntKind.wrap .i64 ((IntKind.wrap .i64 (p229 + (1 : Int))) + (1 : Int))) (3 : Int)) = (0 : Int))))) then
            some (.inl (-1))
          else
            bif ((decide ((0 : Int) ≤ p231)) && (decide (p231 < (p228.length : Int)))) then
            (f_laws_heldIntS ((p228.getD p231.toNat (0, 0, false, [])).2.2.2) (IntKind.wrap .i64 ((IntKind.wrap .i64 ((IntKind.wrap .i64 (p229 + (1 : Int))) + (1 : Int))) + (1 : Int)))).bind fun y232 =>
            bif (decide (y232 < (0 : Int))) then
              some (.inl (-1))
            else
              f_laws_heldMsgS.l0 n p228 y232 p230 (IntKind.wrap .i64 (p231 + (1 : Int)))
            else none
          else none
        else none
      else none
    else
      some (.inr (p229, p230))
noncomputable def f_laws_heldMsgS (x0 : List (Int × Int × Bool × List Int)) (x1 : Int) : Option (Int) :=
  (f_laws_heldMsgS.l0 N x0 x1 0 0).bind fun r233 =>
  cs r233 (fun a234 =>
    some a234) (fun b235 =>
    some b235.1)
noncomputable def C147 : Con := ⟨[(.B, false, [(.sl R5)]), (.B, false, [(.int .i64)])], [(false, [(.int .i64)])], [(.sl R5), (.int .i64)], [(.int .i64)], fun (p : (List (Int × Int × Bool × List Int)) × Int) => f_laws_heldMsgS p.1 p.2⟩
noncomputable def f_laws_heldMsgS.l0.c : LoopCon := ⟨1000, 6, [0, 1, 4, 5], ⟨[(0, .bor none R5 []), (1, .int .i64 0), (4, .int .i64 0), (5, .int .i64 0)], [], 1000⟩, [(.sl R5), (.int .i64), (.int .i64), (.int .i64)], [⟨.ret, [4], ⟨[(4, .int .i64 0)], [], 1000⟩, [(.int .i64)]⟩, ⟨.exit 0, [1, 4], ⟨[(1, .int .i64 0), (4, .int .i64 0)], [], 1000⟩, [(.int .i64), (.int .i64)]⟩], fun (p : (List (Int × Int × Bool × List Int)) × Int × Int × Int) => f_laws_heldMsgS.l0 N p.1 p.2.1 p.2.2.1 p.2.2.2⟩
noncomputable abbrev K147 : Cons := [(24, C24)]
noncomputable abbrev L147 : List (Nat × Loops) := [(147, [(2, f_laws_heldMsgS.l0.c)])]
abbrev Q147 : List (Nat × List (Int × Nat) × Nat) := []
noncomputable abbrev X147 : Nat → Ctx := ctxOf tb K147 L147 Q147
theorem f_laws_heldMsgS.l0.ok : ∀ n p, (fun (p : (List (Int × Int × Bool × List Int)) × Int × Int × Int) => f_laws_heldMsgS.l0 n p.1 p.2.1 p.2.2.1 p.2.2.2) p = iterD (roundOf fs X147 6 147 2 false f_laws_heldMsgS.l0.c) n p :=
  iter_of (l := fun n => fun (p : (List (Int × Int × Bool × List Int)) × Int × Int × Int) => f_laws_heldMsgS.l0 n p.1 p.2.1 p.2.2.1 p.2.2.2) (fun _ => rfl) (fun n p => by kernel_rfl)
theorem E147 : ∀ x, funRun fs X147 6 147 C147 x = C147.fn x := fun x => by kernel_rfl
theorem B147 : ConB Try.prog 147 C147 := ConB.make FS MIX TY (cons := K147) (L := L147) (ptrs := Q147) ⟨S24, trivial⟩ trivial ⟨⟨⟨N, fun p => f_laws_heldMsgS.l0.ok N p⟩, trivial⟩, trivial⟩ rfl rfl E147
theorem S147 : ConS Try.prog 147 C147 := B147.call rfl
/-! laws.heldSenderS: function 159 -/
noncomputable def f_laws_heldSenderS.l0 : Nat → (List (Int × (List (Int × Int × Bool × List Int)))) → Int → Int → Int → Option ((Int) ⊕ (Int × Int))
  | 0, _, _, _, _ => none
  | n + 1, p236, p237, p238, p239 =>
    bif (decide (p239 < (p236.length : Int))) then
      bif ((decide ((0 : Int) ≤ p239)) && (decide (p239 < (p236.length : Int)))) then
      bif (!(decide (((p236.getD p239.toNat (0, [])).1) = p237))) then
        some (.inl (-1))
      else
        bif ((decide ((0 : Int) ≤ p239)) && (decide (p239 < (p236.length : Int)))) then
        (f_laws_heldMsgS ((p236.getD p239.toNat (0, [])).2) (IntKind.wrap .i64 (p237 + (1 : Int)))).bind fun y240 =>
        bif (decide (y240 < (0 : Int))) then
          some (.inl (-1))
        else
          f_laws_heldSenderS.l0 n p236 y240 p238 (IntKind.wrap .i64 (p239 + (1 : Int)))
        else none
      else none
    else
      some (.inr (p237, p238))
noncomputable def f_laws_heldSenderS (x0 : List (Int × (List (Int × Int × Bool × List Int)))) (x1 : Int) : Option (Int) :=
  (f_laws_heldSenderS.l0 N x0 x1 0 0).bind fun r241 =>
  cs r241 (fun a242 =>
    some a242) (fun b243 =>
    some b243.1)
noncomputable def C159 : Con := ⟨[(.B, false, [(.sl R6)]), (.B, false, [(.int .i64)])], [(false, [(.int .i64)])], [(.sl R6), (.int .i64)], [(.int .i64)], fun (p : (List (Int × (List (Int × Int × Bool × List Int)))) × Int) => f_laws_heldSenderS p.1 p.2⟩
noncomputable def f_laws_heldSenderS.l0.c : LoopCon := ⟨1000, 6, [0, 1, 4, 5], ⟨[(0, .bor none R6 []), (1, .int .i64 0), (4, .int .i64 0), (5, .int .i64 0)], [], 1000⟩, [(.sl R6), (.int .i64), (.int .i64), (.int .i64)], [⟨.ret, [4], ⟨[(4, .int .i64 0)], [], 1000⟩, [(.int .i64)]⟩, ⟨.exit 0, [1, 4], ⟨[(1, .int .i64 0), (4, .int .i64 0)], [], 1000⟩, [(.int .i64), (.int .i64)]⟩], fun (p : (List (Int × (List (Int × Int × Bool × List Int)))) × Int × Int × Int) => f_laws_heldSenderS.l0 N p.1 p.2.1 p.2.2.1 p.2.2.2⟩
noncomputable abbrev K159 : Cons := [(147, C147)]
noncomputable abbrev L159 : List (Nat × Loops) := [(159, [(2, f_laws_heldSenderS.l0.c)])]
abbrev Q159 : List (Nat × List (Int × Nat) × Nat) := []
noncomputable abbrev X159 : Nat → Ctx := ctxOf tb K159 L159 Q159
theorem f_laws_heldSenderS.l0.ok : ∀ n p, (fun (p : (List (Int × (List (Int × Int × Bool × List Int)))) × Int × Int × Int) => f_laws_heldSenderS.l0 n p.1 p.2.1 p.2.2.1 p.2.2.2) p = iterD (roundOf fs X159 6 159 2 false f_laws_heldSenderS.l0.c) n p :=
  iter_of (l := fun n => fun (p : (List (Int × (List (Int × Int × Bool × List Int)))) × Int × Int × Int) => f_laws_heldSenderS.l0 n p.1 p.2.1 p.2.2.1 p.2.2.2) (fun _ => rfl) (fun n p => by kernel_rfl)
theorem E159 : ∀ x, funRun fs X159 6 159 C159 x = C159.fn x := fun x => by kernel_rfl
theorem B159 : ConB Try.prog 159 C159 := ConB.make FS MIX TY (cons := K159) (L := L159) (ptrs := Q159) ⟨S147, trivial⟩ trivial ⟨⟨⟨N, fun p => f_laws_heldSenderS.l0.ok N p⟩, trivial⟩, trivial⟩ rfl rfl E159
theorem S159 : ConS Try.prog 159 C159 := B159.call rfl
/-! laws.heldReceiverS: function 160 -/
noncomputable def f_laws_heldReceiverS.l0 : Nat → (List Int) → Int → Int → Int → Option ((Int) ⊕ (Int × Int))
  | 0, _, _, _, _ => none
  | n + 1, p244, p245, p246, p247 =>
    bif (decide (p247 < (p244.length : Int))) then
      bif ((decide ((0 : Int) ≤ p247)) && (decide (p247 < (p244.length : Int)))) then
      bif (!(decide ((p244.getD p247.toNat 0) = p245))) then
        some (.inl (-1))
      else
        f_laws_heldReceiverS.l0 n p244 (IntKind.wrap .i64 (p245 + (1 : Int))) p246 (IntKind.wrap .i64 (p247 + (1 : Int)))
      else none
    else
      some (.inr (p245, p246))
noncomputable def f_laws_heldReceiverS (x0 : List Int) (x1 : Int) : Option (Int) :=
  (f_laws_heldReceiverS.l0 N x0 x1 0 0).bind fun r248 =>
  cs r248 (fun a249 =>
    some a249) (fun b250 =>
    some b250.1)
noncomputable def C160 : Con := ⟨[(.B, false, [(.sl R0)]), (.B, false, [(.int .i64)])], [(false, [(.int .i64)])], [(.sl R0), (.int .i64)], [(.int .i64)], fun (p : List Int × Int) => f_laws_heldReceiverS p.1 p.2⟩
noncomputable def f_laws_heldReceiverS.l0.c : LoopCon := ⟨1000, 6, [0, 1, 4, 5], ⟨[(0, .bor none R0 []), (1, .int .i64 0), (4, .int .i64 0), (5, .int .i64 0)], [], 1000⟩, [(.sl R0), (.int .i64), (.int .i64), (.int .i64)], [⟨.ret, [4], ⟨[(4, .int .i64 0)], [], 1000⟩, [(.int .i64)]⟩, ⟨.exit 0, [1, 4], ⟨[(1, .int .i64 0), (4, .int .i64 0)], [], 1000⟩, [(.int .i64), (.int .i64)]⟩], fun (p : List Int × Int × Int × Int) => f_laws_heldReceiverS.l0 N p.1 p.2.1 p.2.2.1 p.2.2.2⟩
noncomputable abbrev K160 : Cons := []
noncomputable abbrev L160 : List (Nat × Loops) := [(160, [(2, f_laws_heldReceiverS.l0.c)])]
abbrev Q160 : List (Nat × List (Int × Nat) × Nat) := []
noncomputable abbrev X160 : Nat → Ctx := ctxOf tb K160 L160 Q160
theorem f_laws_heldReceiverS.l0.ok : ∀ n p, (fun (p : List Int × Int × Int × Int) => f_laws_heldReceiverS.l0 n p.1 p.2.1 p.2.2.1 p.2.2.2) p = iterD (roundOf fs X160 6 160 2 false f_laws_heldReceiverS.l0.c) n p :=
  iter_of (l := fun n => fun (p : List Int × Int × Int × Int) => f_laws_heldReceiverS.l0 n p.1 p.2.1 p.2.2.1 p.2.2.2) (fun _ => rfl) (fun n p => by kernel_rfl)
theorem E160 : ∀ x, funRun fs X160 6 160 C160 x = C160.fn x := fun x => by kernel_rfl
theorem B160 : ConB Try.prog 160 C160 := ConB.make FS MIX TY (cons := K160) (L := L160) (ptrs := Q160) trivial trivial ⟨⟨⟨N, fun p => f_laws_heldReceiverS.l0.ok N p⟩, trivial⟩, trivial⟩ rfl rfl E160
theorem S160 : ConS Try.prog 160 C160 := B160.call rfl
/-! laws.heldNode: function 84 -/
noncomputable def f_laws_heldNode (x0 : Int) (x1 : List (Int × List Int × Bool)) (x2 : List (List Int × Int × List Bool × Bool × Int × Bool × Int × (List (Int × Bool)))) (x3 : List (Int × (List (Int × Int × Bool × List Int)))) (x4 : List Int) (x5 : Int) : Option (Int) :=
  (f_laws_heldFrameS x1 x5).bind fun y251 =>
  bif (decide (y251 < (0 : Int))) then
    some (-1)
  else
    (f_laws_heldHomeS x2 y251).bind fun y252 =>
    bif (decide (y252 < (0 : Int))) then
      some (-1)
    else
      (f_laws_heldSenderS x3 y252).bind fun y253 =>
      bif (decide (y253 < (0 : Int))) then
        some (-1)
      else
        (f_laws_heldReceiverS x4 y253).bind fun y254 =>
        bif (decide (y254 < (0 : Int))) then
          some (-1)
        else
          some y254
noncomputable def C84 : Con := ⟨[(.B, true, [(.int .i64), (.sl R3), (.sl R4), (.sl R6), (.sl R0)]), (.B, false, [(.int .i64)])], [(false, [(.int .i64)])], [(.int .i64), (.sl R3), (.sl R4), (.sl R6), (.sl R0), (.int .i64)], [(.int .i64)], fun (p : Int × (List (Int × List Int × Bool)) × (List (List Int × Int × List Bool × Bool × Int × Bool × Int × (List (Int × Bool)))) × (List (Int × (List (Int × Int × Bool × List Int)))) × List Int × Int) => f_laws_heldNode p.1 p.2.1 p.2.2.1 p.2.2.2.1 p.2.2.2.2.1 p.2.2.2.2.2⟩
noncomputable abbrev K84 : Cons := [(157, C157), (158, C158), (159, C159), (160, C160)]
noncomputable abbrev L84 : List (Nat × Loops) := []
abbrev Q84 : List (Nat × List (Int × Nat) × Nat) := []
noncomputable abbrev X84 : Nat → Ctx := ctxOf tb K84 L84 Q84
theorem E84 : ∀ x, funRun fs X84 6 84 C84 x = C84.fn x := fun x => by kernel_rfl
theorem B84 : ConB Try.prog 84 C84 := ConB.make FS MIX TY (cons := K84) (L := L84) (ptrs := Q84) ⟨S157, S158, S159, S160, trivial⟩ trivial trivial rfl rfl E84
theorem S84 : ConS Try.prog 84 C84 := B84.call rfl
/-! laws.FnExactNodeNew: function 13 -/
noncomputable def f_laws_FnExactNodeNew (x0 : Int) (x1 : Int) : Option (Bool) :=
  (f_spec_NodeNew x0 x1).bind fun y255 =>
  (f_impl_NodeNew x0 x1).bind fun y256 =>
  (f_laws_eqNode y256.1 y256.2.1 y256.2.2.1 y256.2.2.2.1 y256.2.2.2.2.1 y255.1 y255.2.1 y255.2.2.1 y255.2.2.2.1 y255.2.2.2.2.1).bind fun y257 =>
  bif (!y257) then
    some false
  else
    bif (!(y256.2.2.2.2.2 == y255.2.2.2.2.2)) then
      some false
    else
      (f_laws_markNode y256.1 y256.2.1 y256.2.2.1 y256.2.2.2.1 y256.2.2.2.2.1 1).bind fun y258 =>
      (some (y258.2.1 : List (Int × List Int × Bool))).bind fun z259 =>
      (some (y258.2.2.1 : List (List Int × Int × List Bool × Bool × Int × Bool × Int × (List (Int × Bool))))).bind fun z260 =>
      (some (y258.2.2.2.1 : List (Int × (List (Int × Int × Bool × List Int))))).bind fun z261 =>
      (some (y258.2.2.2.2 : List Int)).bind fun z262 =>
      (f_laws_heldNode y256.1 z259 z260 z261 z262 1).bind fun y263 =>
      bif (decide (y263 < (0 : Int))) then
        some false
      else
        bif (!(decide (y263 = y258.1))) then
          some false
        else
          (f_impl_NodeNew x0 x1).bind fun y264 =>
          (f_laws_eqNode y264.1 y264.2.1 y264.2.2.1 y264.2.2.2.1 y264.2.2.2.2.1 y255.1 y255.2.1 y255.2.2.1 y255.2.2.2.1 y255.2.2.2.2.1).bind fun y265 =>
          bif (!y265) then
            some false
          else
            bif (!(y264.2.2.2.2.2 == y255.2.2.2.2.2)) then
              some false
            else
              (f_laws_heldNode y256.1 z259 z260 z261 z262 1).bind fun y266 =>
              bif (decide (y266 < (0 : Int))) then
                some false
              else
                bif (!(decide (y266 = y258.1))) then
                  some false
                else
                  some true
noncomputable def C13 : Con := ⟨[(.B, false, [(.int .i64)]), (.B, false, [(.int .i64)])], [(false, [.bool])], [(.int .i64), (.int .i64)], [.bool], fun (p : Int × Int) => f_laws_FnExactNodeNew p.1 p.2⟩
noncomputable abbrev K13 : Cons := [(80, C80), (81, C81), (82, C82), (83, C83), (84, C84)]
noncomputable abbrev L13 : List (Nat × Loops) := []
abbrev Q13 : List (Nat × List (Int × Nat) × Nat) := []
noncomputable abbrev X13 : Nat → Ctx := ctxOf tb K13 L13 Q13
theorem E13 : ∀ x, funRun fs X13 6 13 C13 x = C13.fn x := fun x => by kernel_rfl
theorem B13 : ConB Try.prog 13 C13 := ConB.make FS MIX TY (cons := K13) (L := L13) (ptrs := Q13) ⟨S80, S81, S82, S83, S84, trivial⟩ trivial trivial rfl rfl E13
theorem S13 : ConS Try.prog 13 C13 := B13.call rfl
/-- What is left: the plain law. -/
def Pure : Prop := ∀ x : Tup [(.int .i64), (.int .i64)], WfT [(.int .i64), (.int .i64)] x → C13.fn x = some (true : Bool)
end
end Go.Abs
