import Derived.Test.YtbecooalhanmeaaProg
import Derived.Test.YtbecooalhanmeaaAbsD
import Derived.KernelRfl
namespace Go.Abs
open Go.Proofs
set_option linter.unusedVariables false
set_option maxRecDepth 100000
noncomputable section
abbrev N : Nat := 1152921504606846976
abbrev R0 : RT := .one (.int .i64)
abbrev R1 : RT := .one .bool
abbrev R2 : RT := .cons (.int .i64) (.one .bool)
noncomputable def tb : Tb := [(0, ⟨false, [], [], 0, 0⟩),
  (3, ⟨false, [(.int .i64)], [], 0, 8⟩),
  (4, ⟨false, [.bool], [], 0, 1⟩),
  (22, ⟨false, [(.sl R0)], [], 3, 24⟩),
  (61, ⟨false, [(.sl R1)], [], 4, 24⟩),
  (63, ⟨true, [(.int .i64), .bool], [(0, 3), (1, 4)], 0, 16⟩),
  (64, ⟨false, [(.sl R2)], [], 63, 24⟩),
  (66, ⟨true, [(.sl R0), (.int .i64), (.sl R1), .bool, (.int .i64), .bool, (.int .i64), (.sl R2)], [(0, 22), (1, 3), (2, 61), (3, 4), (4, 63), (6, 3), (7, 64)], 0, 112⟩),
  (70, ⟨false, [], [], 0, 8⟩),
  (98, ⟨true, [(.int .i64), .bool], [(0, 3), (1, 4)], 0, 16⟩),
  (99, ⟨false, [(.sl R2)], [], 98, 24⟩),
  (101, ⟨true, [(.sl R0), (.int .i64), (.sl R1), .bool, (.int .i64), .bool, (.int .i64), (.sl R2)], [(0, 22), (1, 3), (2, 61), (3, 4), (4, 98), (6, 3), (7, 99)], 0, 112⟩),
  (138, ⟨false, [], [], 0, 8⟩)]
noncomputable def fsL : List (Nat × Func) := [(68, Try.f68), (106, Try.f106), (107, Try.f107), (59, Try.f59), (27, Try.f27), (108, Try.f108), (109, Try.f109), (110, Try.f110), (61, Try.f61), (69, Try.f69), (70, Try.f70), (60, Try.f60), (71, Try.f71), (83, Try.f83), (114, Try.f114), (122, Try.f122), (113, Try.f113), (73, Try.f73), (86, Try.f86), (112, Try.f112), (121, Try.f121), (111, Try.f111), (62, Try.f62), (29, Try.f29), (88, Try.f88), (89, Try.f89), (90, Try.f90), (41, Try.f41), (13, Try.f13)]
noncomputable def fs : Nat → Option Func := getF fsL
theorem MIX : Try.prog.follows .mixedOrders = true := by kernel_rfl
theorem TY : tyCheck Try.prog tb = true := by kernel_rfl
theorem CAT : catCheck tb = true := by kernel_rfl
theorem FSP : FsP Try.prog fsL := ⟨Try.func68, Try.func106, Try.func107, Try.func59, Try.func27, Try.func108, Try.func109, Try.func110, Try.func61, Try.func69, Try.func70, Try.func60, Try.func71, Try.func83, Try.func114, Try.func122, Try.func113, Try.func73, Try.func86, Try.func112, Try.func121, Try.func111, Try.func62, Try.func29, Try.func88, Try.func89, Try.func90, Try.func41, Try.func13, trivial⟩
theorem FSC : (fsL.all fun p => fnChk p.2) = true := by kernel_rfl
theorem FS : FsS Try.prog fs := FsS.of FSP FSC
/-! laws.szIntS: function 68 -/
noncomputable def f_laws_szIntS (x0 : List Int) (x1 : Int) : Option (Int) :=
  bif (decide ((IntKind.wrap .i64 (x1 - (x0.length : Int))) < (0 : Int))) then
    some (-1)
  else
    some (IntKind.wrap .i64 (x1 - (x0.length : Int)))
noncomputable def C68 : Con := ⟨[(.B, false, [(.sl R0)]), (.B, false, [(.int .i64)])], [(false, [(.int .i64)])], [(.sl R0), (.int .i64)], [(.int .i64)], fun (p : List Int × Int) => f_laws_szIntS p.1 p.2⟩
noncomputable abbrev K68 : Cons := []
noncomputable abbrev L68 : List (Nat × Loops) := []
abbrev Q68 : List (Nat × List (Int × Nat) × Nat) := []
noncomputable abbrev X68 : Nat → Ctx := ctxOf tb K68 L68 Q68
theorem E68 : ∀ x, funRun fs X68 6 68 C68 x = C68.fn x := fun x => by kernel_rfl
theorem B68 : ConB Try.prog 68 C68 := ConB.make FS MIX TY (cons := K68) (L := L68) (ptrs := Q68) trivial trivial trivial rfl rfl E68
theorem S68 : ConS Try.prog 68 C68 := B68.call rfl
/-! laws.szBoolS: function 106 -/
noncomputable def f_laws_szBoolS (x0 : List Bool) (x1 : Int) : Option (Int) :=
  bif (decide ((IntKind.wrap .i64 (x1 - (x0.length : Int))) < (0 : Int))) then
    some (-1)
  else
    some (IntKind.wrap .i64 (x1 - (x0.length : Int)))
noncomputable def C106 : Con := ⟨[(.B, false, [(.sl R1)]), (.B, false, [(.int .i64)])], [(false, [(.int .i64)])], [(.sl R1), (.int .i64)], [(.int .i64)], fun (p : List Bool × Int) => f_laws_szBoolS p.1 p.2⟩
noncomputable abbrev K106 : Cons := []
noncomputable abbrev L106 : List (Nat × Loops) := []
abbrev Q106 : List (Nat × List (Int × Nat) × Nat) := []
noncomputable abbrev X106 : Nat → Ctx := ctxOf tb K106 L106 Q106
theorem E106 : ∀ x, funRun fs X106 6 106 C106 x = C106.fn x := fun x => by kernel_rfl
theorem B106 : ConB Try.prog 106 C106 := ConB.make FS MIX TY (cons := K106) (L := L106) (ptrs := Q106) trivial trivial trivial rfl rfl E106
theorem S106 : ConS Try.prog 106 C106 := B106.call rfl
/-! laws.szWaitS: function 107 -/
noncomputable def f_laws_szWaitS (x0 : List (Int × Bool)) (x1 : Int) : Option (Int) :=
  bif (decide ((IntKind.wrap .i64 (x1 - (x0.length : Int))) < (0 : Int))) then
    some (-1)
  else
    some (IntKind.wrap .i64 (x1 - (x0.length : Int)))
noncomputable def C107 : Con := ⟨[(.B, false, [(.sl R2)]), (.B, false, [(.int .i64)])], [(false, [(.int .i64)])], [(.sl R2), (.int .i64)], [(.int .i64)], fun (p : (List (Int × Bool)) × Int) => f_laws_szWaitS p.1 p.2⟩
noncomputable abbrev K107 : Cons := []
noncomputable abbrev L107 : List (Nat × Loops) := []
abbrev Q107 : List (Nat × List (Int × Nat) × Nat) := []
noncomputable abbrev X107 : Nat → Ctx := ctxOf tb K107 L107 Q107
theorem E107 : ∀ x, funRun fs X107 6 107 C107 x = C107.fn x := fun x => by kernel_rfl
theorem B107 : ConB Try.prog 107 C107 := ConB.make FS MIX TY (cons := K107) (L := L107) (ptrs := Q107) trivial trivial trivial rfl rfl E107
theorem S107 : ConS Try.prog 107 C107 := B107.call rfl
/-! laws.szHome: function 59 -/
noncomputable def f_laws_szHome (x0 : List Int) (x1 : Int) (x2 : List Bool) (x3 : Bool) (x4 : Int) (x5 : Bool) (x6 : Int) (x7 : List (Int × Bool)) (x8 : Int) : Option (Int) :=
  (f_laws_szIntS x0 x8).bind fun y1 =>
  bif (decide (y1 < (0 : Int))) then
    some (-1)
  else
    (f_laws_szBoolS x2 y1).bind fun y2 =>
    bif (decide (y2 < (0 : Int))) then
      some (-1)
    else
      (f_laws_szWaitS x7 y2).bind fun y3 =>
      bif (decide (y3 < (0 : Int))) then
        some (-1)
      else
        some y3
noncomputable def C59 : Con := ⟨[(.B, true, [(.sl R0), (.int .i64), (.sl R1), .bool, (.int .i64), .bool, (.int .i64), (.sl R2)]), (.B, false, [(.int .i64)])], [(false, [(.int .i64)])], [(.sl R0), (.int .i64), (.sl R1), .bool, (.int .i64), .bool, (.int .i64), (.sl R2), (.int .i64)], [(.int .i64)], fun (p : List Int × Int × List Bool × Bool × Int × Bool × Int × (List (Int × Bool)) × Int) => f_laws_szHome p.1 p.2.1 p.2.2.1 p.2.2.2.1 p.2.2.2.2.1 p.2.2.2.2.2.1 p.2.2.2.2.2.2.1 p.2.2.2.2.2.2.2.1 p.2.2.2.2.2.2.2.2⟩
noncomputable abbrev K59 : Cons := [(68, C68), (106, C106), (107, C107)]
noncomputable abbrev L59 : List (Nat × Loops) := []
abbrev Q59 : List (Nat × List (Int × Nat) × Nat) := []
noncomputable abbrev X59 : Nat → Ctx := ctxOf tb K59 L59 Q59
theorem E59 : ∀ x, funRun fs X59 6 59 C59 x = C59.fn x := fun x => by kernel_rfl
theorem B59 : ConB Try.prog 59 C59 := ConB.make FS MIX TY (cons := K59) (L := L59) (ptrs := Q59) ⟨S68, S106, S107, trivial⟩ trivial trivial rfl rfl E59
theorem S59 : ConS Try.prog 59 C59 := B59.call rfl
/-! laws.toIntS: function 27 -/
noncomputable def f_laws_toIntS.l0 : Nat → (List Int) → Int → (List Int) → Option (List Int)
  | 0, _, _, _ => none
  | n + 1, p4, p5, p6 =>
    bif (decide (p5 < (p4.length : Int))) then
      bif ((decide ((0 : Int) ≤ p5)) && (decide (p5 < (p4.length : Int)))) then
      bif ((decide ((0 : Int) ≤ p5)) && (decide (p5 < (p6.length : Int)))) then
      (some ((p6.set p5.toNat (p4.getD p5.toNat 0)) : List Int)).bind fun z7 =>
      f_laws_toIntS.l0 n p4 (IntKind.wrap .i64 (p5 + (1 : Int))) z7
      else none
      else none
    else
      some p6
noncomputable def f_laws_toIntS (x0 : List Int) : Option (List Int) :=
  bif (decide ((0 : Int) ≤ (x0.length : Int)) && Nat.ble (x0.length : Int).toNat 17592186044416) then
  (f_laws_toIntS.l0 N x0 0 (List.replicate (x0.length : Int).toNat 0)).bind fun r8 =>
  some r8
  else none
noncomputable def C27 : Con := ⟨[(.B, false, [(.sl R0)])], [(false, [(.sl R0)])], [(.sl R0)], [(.sl R0)], fun (p : List Int) => f_laws_toIntS p⟩
noncomputable def f_laws_toIntS.l0.c : LoopCon := ⟨1000, 6, [0, 2, 3, 4], ⟨[(0, .bor none R0 []), (2, .nil (some R0)), (3, .ref 1000 [] none), (4, .int .i64 0)], [(1000, .row R0 [])], 1001⟩, [(.sl R0), (.int .i64), (.sl R0)], [⟨.exit 0, [2, 3], ⟨[(2, .nil (some R0)), (3, .ref 1000 [] none)], [(1000, .row R0 [])], 1001⟩, [(.sl R0)]⟩], fun (p : List Int × Int × List Int) => f_laws_toIntS.l0 N p.1 p.2.1 p.2.2⟩
noncomputable abbrev K27 : Cons := []
noncomputable abbrev L27 : List (Nat × Loops) := [(27, [(3, f_laws_toIntS.l0.c)])]
abbrev Q27 : List (Nat × List (Int × Nat) × Nat) := []
noncomputable abbrev X27 : Nat → Ctx := ctxOf tb K27 L27 Q27
theorem f_laws_toIntS.l0.ok : ∀ n p, (fun (p : List Int × Int × List Int) => f_laws_toIntS.l0 n p.1 p.2.1 p.2.2) p = iterD (roundOf fs X27 6 27 3 false f_laws_toIntS.l0.c) n p :=
  iter_of (l := fun n => fun (p : List Int × Int × List Int) => f_laws_toIntS.l0 n p.1 p.2.1 p.2.2) (fun _ => rfl) (fun n p => by kernel_rfl)
theorem E27 : ∀ x, funRun fs X27 6 27 C27 x = C27.fn x := fun x => by kernel_rfl
theorem B27 : ConB Try.prog 27 C27 := ConB.make FS MIX TY (cons := K27) (L := L27) (ptrs := Q27) trivial trivial ⟨⟨⟨N, fun p => f_laws_toIntS.l0.ok N p⟩, trivial⟩, trivial⟩ rfl rfl E27
theorem S27 : ConS Try.prog 27 C27 := B27.call rfl
/-! laws.toBoolS: function 108 -/
noncomputable def f_laws_toBoolS.l0 : Nat → (List Bool) → Int → (List Bool) → Option (List Bool)
  | 0, _, _, _ => none
  | n + 1, p9, p10, p11 =>
    bif (decide (p10 < (p9.length : Int))) then
      bif ((decide ((0 : Int) ≤ p10)) && (decide (p10 < (p9.length : Int)))) then
      bif ((decide ((0 : Int) ≤ p10)) && (decide (p10 < (p11.length : Int)))) then
      (some ((p11.set p10.toNat (p9.getD p10.toNat false)) : List Bool)).bind fun z12 =>
      f_laws_toBoolS.l0 n p9 (IntKind.wrap .i64 (p10 + (1 : Int))) z12
      else none
      else none
    else
      some p11
noncomputable def f_laws_toBoolS (x0 : List Bool) : Option (List Bool) :=
  bif (decide ((0 : Int) ≤ (x0.length : Int)) && Nat.ble (x0.length : Int).toNat 140737488355328) then
  (f_laws_toBoolS.l0 N x0 0 (List.replicate (x0.length : Int).toNat false)).bind fun r13 =>
  some r13
  else none
noncomputable def C108 : Con := ⟨[(.B, false, [(.sl R1)])], [(false, [(.sl R1)])], [(.sl R1)], [(.sl R1)], fun (p : List Bool) => f_laws_toBoolS p⟩
noncomputable def f_laws_toBoolS.l0.c : LoopCon := ⟨1000, 6, [0, 2, 3, 4], ⟨[(0, .bor none R1 []), (2, .nil (some R1)), (3, .ref 1000 [] none), (4, .int .i64 0)], [(1000, .row R1 [])], 1001⟩, [(.sl R1), (.int .i64), (.sl R1)], [⟨.exit 0, [2, 3], ⟨[(2, .nil (some R1)), (3, .ref 1000 [] none)], [(1000, .row R1 [])], 1001⟩, [(.sl R1)]⟩], fun (p : List Bool × Int × List Bool) => f_laws_toBoolS.l0 N p.1 p.2.1 p.2.2⟩
noncomputable abbrev K108 : Cons := []
noncomputable abbrev L108 : List (Nat × Loops) := [(108, [(3, f_laws_toBoolS.l0.c)])]
abbrev Q108 : List (Nat × List (Int × Nat) × Nat) := []
noncomputable abbrev X108 : Nat → Ctx := ctxOf tb K108 L108 Q108
theorem f_laws_toBoolS.l0.ok : ∀ n p, (fun (p : List Bool × Int × List Bool) => f_laws_toBoolS.l0 n p.1 p.2.1 p.2.2) p = iterD (roundOf fs X108 6 108 3 false f_laws_toBoolS.l0.c) n p :=
  iter_of (l := fun n => fun (p : List Bool × Int × List Bool) => f_laws_toBoolS.l0 n p.1 p.2.1 p.2.2) (fun _ => rfl) (fun n p => by kernel_rfl)
theorem E108 : ∀ x, funRun fs X108 6 108 C108 x = C108.fn x := fun x => by kernel_rfl
theorem B108 : ConB Try.prog 108 C108 := ConB.make FS MIX TY (cons := K108) (L := L108) (ptrs := Q108) trivial trivial ⟨⟨⟨N, fun p => f_laws_toBoolS.l0.ok N p⟩, trivial⟩, trivial⟩ rfl rfl E108
theorem S108 : ConS Try.prog 108 C108 := B108.call rfl
/-! laws.toWait: function 109 -/
noncomputable def f_laws_toWait (x0 : Int) (x1 : Bool) : Option (Int × Bool) :=
  some (x0, x1)
noncomputable def C109 : Con := ⟨[(.B, true, [(.int .i64), .bool])], [(true, [(.int .i64), .bool])], [(.int .i64), .bool], [(.int .i64), .bool], fun (p : Int × Bool) => f_laws_toWait p.1 p.2⟩
noncomputable abbrev K109 : Cons := []
noncomputable abbrev L109 : List (Nat × Loops) := []
abbrev Q109 : List (Nat × List (Int × Nat) × Nat) := []
noncomputable abbrev X109 : Nat → Ctx := ctxOf tb K109 L109 Q109
theorem E109 : ∀ x, funRun fs X109 6 109 C109 x = C109.fn x := fun x => by kernel_rfl
theorem B109 : ConB Try.prog 109 C109 := ConB.make FS MIX TY (cons := K109) (L := L109) (ptrs := Q109) trivial trivial trivial rfl rfl E109
theorem S109 : ConS Try.prog 109 C109 := B109.call rfl
/-! laws.toWaitS: function 110 -/
noncomputable def f_laws_toWaitS.l0 : Nat → (List (Int × Bool)) → Int → (List (Int × Bool)) → Option ((List (Int × Bool)))
  | 0, _, _, _ => none
  | n + 1, p14, p15, p16 =>
    bif (decide (p15 < (p14.length : Int))) then
      bif ((decide ((0 : Int) ≤ p15)) && (decide (p15 < (p14.length : Int)))) then
      (f_laws_toWait ((p14.getD p15.toNat (0, false)).1) ((p14.getD p15.toNat (0, false)).2)).bind fun y17 =>
      bif ((decide ((0 : Int) ≤ p15)) && (decide (p15 < (p16.length : Int)))) then
      (some ((p16.set p15.toNat (y17.1, y17.2)) : List (Int × Bool))).bind fun z18 =>
      f_laws_toWaitS.l0 n p14 (IntKind.wrap .i64 (p15 + (1 : Int))) z18
      else none
      else none
    else
      some p16
noncomputable def f_laws_toWaitS (x0 : List (Int × Bool)) : Option ((List (Int × Bool))) :=
  bif (decide ((0 : Int) ≤ (x0.length : Int)) && Nat.ble (x0.length : Int).toNat 8796093022208) then
  (f_laws_toWaitS.l0 N x0 0 (List.replicate (x0.length : Int).toNat (0, false))).bind fun r19 =>
  some r19
  else none
noncomputable def C110 : Con := ⟨[(.B, false, [(.sl R2)])], [(false, [(.sl R2)])], [(.sl R2)], [(.sl R2)], fun (p : (List (Int × Bool))) => f_laws_toWaitS p⟩
noncomputable def f_laws_toWaitS.l0.c : LoopCon := ⟨1000, 6, [0, 2, 3, 4], ⟨[(0, .bor none R2 []), (2, .nil (some R2)), (3, .ref 1000 [] none), (4, .int .i64 0)], [(1000, .row R2 [])], 1001⟩, [(.sl R2), (.int .i64), (.sl R2)], [⟨.exit 0, [2, 3], ⟨[(2, .nil (some R2)), (3, .ref 1000 [] none)], [(1000, .row R2 [])], 1001⟩, [(.sl R2)]⟩], fun (p : (List (Int × Bool)) × Int × (List (Int × Bool))) => f_laws_toWaitS.l0 N p.1 p.2.1 p.2.2⟩
noncomputable abbrev K110 : Cons := [(109, C109)]
noncomputable abbrev L110 : List (Nat × Loops) := [(110, [(3, f_laws_toWaitS.l0.c)])]
abbrev Q110 : List (Nat × List (Int × Nat) × Nat) := []
noncomputable abbrev X110 : Nat → Ctx := ctxOf tb K110 L110 Q110
theorem f_laws_toWaitS.l0.ok : ∀ n p, (fun (p : (List (Int × Bool)) × Int × (List (Int × Bool))) => f_laws_toWaitS.l0 n p.1 p.2.1 p.2.2) p = iterD (roundOf fs X110 6 110 3 false f_laws_toWaitS.l0.c) n p :=
  iter_of (l := fun n => fun (p : (List (Int × Bool)) × Int × (List (Int × Bool))) => f_laws_toWaitS.l0 n p.1 p.2.1 p.2.2) (fun _ => rfl) (fun n p => by kernel_rfl)
theorem E110 : ∀ x, funRun fs X110 6 110 C110 x = C110.fn x := fun x => by kernel_rfl
theorem B110 : ConB Try.prog 110 C110 := ConB.make FS MIX TY (cons := K110) (L := L110) (ptrs := Q110) ⟨S109, trivial⟩ trivial ⟨⟨⟨N, fun p => f_laws_toWaitS.l0.ok N p⟩, trivial⟩, trivial⟩ rfl rfl E110
theorem S110 : ConS Try.prog 110 C110 := B110.call rfl
/-! laws.toHome: function 61 -/
noncomputable def f_laws_toHome (x0 : List Int) (x1 : Int) (x2 : List Bool) (x3 : Bool) (x4 : Int) (x5 : Bool) (x6 : Int) (x7 : List (Int × Bool)) : Option (List Int × Int × List Bool × Bool × Int × Bool × Int × (List (Int × Bool))) :=
  (f_laws_toIntS x0).bind fun y20 =>
  (f_laws_toBoolS x2).bind fun y21 =>
  (f_laws_toWait x4 x5).bind fun y22 =>
  (f_laws_toWaitS x7).bind fun y23 =>
  some (y20, x1, y21, x3, y22.1, y22.2, x6, y23)
noncomputable def C61 : Con := ⟨[(.B, true, [(.sl R0), (.int .i64), (.sl R1), .bool, (.int .i64), .bool, (.int .i64), (.sl R2)])], [(true, [(.sl R0), (.int .i64), (.sl R1), .bool, (.int .i64), .bool, (.int .i64), (.sl R2)])], [(.sl R0), (.int .i64), (.sl R1), .bool, (.int .i64), .bool, (.int .i64), (.sl R2)], [(.sl R0), (.int .i64), (.sl R1), .bool, (.int .i64), .bool, (.int .i64), (.sl R2)], fun (p : List Int × Int × List Bool × Bool × Int × Bool × Int × (List (Int × Bool))) => f_laws_toHome p.1 p.2.1 p.2.2.1 p.2.2.2.1 p.2.2.2.2.1 p.2.2.2.2.2.1 p.2.2.2.2.2.2.1 p.2.2.2.2.2.2.2⟩
noncomputable abbrev K61 : Cons := [(27, C27), (108, C108), (109, C109), (110, C110)]
noncomputable abbrev L61 : List (Nat × Loops) := []
abbrev Q61 : List (Nat × List (Int × Nat) × Nat) := []
noncomputable abbrev X61 : Nat → Ctx := ctxOf tb K61 L61 Q61
theorem E61 : ∀ x, funRun fs X61 6 61 C61 x = C61.fn x := fun x => by kernel_rfl
theorem B61 : ConB Try.prog 61 C61 := ConB.make FS MIX TY (cons := K61) (L := L61) (ptrs := Q61) ⟨S27, S108, S109, S110, trivial⟩ trivial trivial rfl rfl E61
theorem S61 : ConS Try.prog 61 C61 := B61.call rfl
/-! spec.l1In: function 69 -/
noncomputable def f_spec_l1In (x0 : Int) (x1 : Int) (x2 : Int) : Option (Bool) :=
  bif (decide (x1 ≤ x0)) then
    some (decide (x0 ≤ x2))
  else
    some false
noncomputable def C69 : Con := ⟨[(.B, false, [(.int .i64)]), (.B, false, [(.int .i64)]), (.B, false, [(.int .i64)])], [(false, [.bool])], [(.int .i64), (.int .i64), (.int .i64)], [.bool], fun (p : Int × Int × Int) => f_spec_l1In p.1 p.2.1 p.2.2⟩
noncomputable abbrev K69 : Cons := []
noncomputable abbrev L69 : List (Nat × Loops) := []
abbrev Q69 : List (Nat × List (Int × Nat) × Nat) := []
noncomputable abbrev X69 : Nat → Ctx := ctxOf tb K69 L69 Q69
theorem E69 : ∀ x, funRun fs X69 6 69 C69 x = C69.fn x := fun x => by kernel_rfl
theorem B69 : ConB Try.prog 69 C69 := ConB.make FS MIX TY (cons := K69) (L := L69) (ptrs := Q69) trivial trivial trivial rfl rfl E69
theorem S69 : ConS Try.prog 69 C69 := B69.call rfl
/-! spec.l1Words: function 70 -/
noncomputable def f_spec_l1Words.l0 : Nat → (List Int) → Int → Bool → Int → Option ((Bool) ⊕ (List Int × Int × Bool))
  | 0, _, _, _, _ => none
  | n + 1, p24, p25, p26, p27 =>
    bif (decide (p27 < (p24.length : Int))) then
      bif ((decide ((0 : Int) ≤ p27)) && (decide (p27 < (p24.length : Int)))) then
      (f_spec_l1In (p24.getD p27.toNat 0) 0 65535).bind fun y28 =>
      bif (!y28) then
        some (.inl false)
      else
        f_spec_l1Words.l0 n p24 p25 p26 (IntKind.wrap .i64 (p27 + (1 : Int)))
      else none
    else
      some (.inr (p24, p25, p26))
noncomputable def f_spec_l1Words (x0 : List Int) (x1 : Int) : Option (Bool) :=
  (f_spec_l1Words.l0 N x0 x1 false 0).bind fun r29 =>
  cs r29 (fun a30 =>
    some a30) (fun b31 =>
    some (decide ((b31.1.length : Int) = b31.2.1)))
noncomputable def C70 : Con := ⟨[(.B, false, [(.sl R0)]), (.B, false, [(.int .i64)])], [(false, [.bool])], [(.sl R0), (.int .i64)], [.bool], fun (p : List Int × Int) => f_spec_l1Words p.1 p.2⟩
noncomputable def f_spec_l1Words.l0.c : LoopCon := ⟨1000, 6, [0, 1, 4, 5], ⟨[(0, .bor none R0 []), (1, .int .i64 0), (4, .bool false), (5, .int .i64 0)], [], 1000⟩, [(.sl R0), (.int .i64), .bool, (.int .i64)], [⟨.ret, [4], ⟨[(4, .bool false)], [], 1000⟩, [.bool]⟩, ⟨.exit 0, [0, 1, 4], ⟨[(0, .bor none R0 []), (1, .int .i64 0), (4, .bool false)], [], 1000⟩, [(.sl R0), (.int .i64), .bool]⟩], fun (p : List Int × Int × Bool × Int) => f_spec_l1Words.l0 N p.1 p.2.1 p.2.2.1 p.2.2.2⟩
noncomputable abbrev K70 : Cons := [(69, C69)]
noncomputable abbrev L70 : List (Nat × Loops) := [(70, [(2, f_spec_l1Words.l0.c)])]
abbrev Q70 : List (Nat × List (Int × Nat) × Nat) := []
noncomputable abbrev X70 : Nat → Ctx := ctxOf tb K70 L70 Q70
theorem f_spec_l1Words.l0.ok : ∀ n p, (fun (p : List Int × Int × Bool × Int) => f_spec_l1Words.l0 n p.1 p.2.1 p.2.2.1 p.2.2.2) p = iterD (roundOf fs X70 6 70 2 false f_spec_l1Words.l0.c) n p :=
  iter_of (l := fun n => fun (p : List Int × Int × Bool × Int) => f_spec_l1Words.l0 n p.1 p.2.1 p.2.2.1 p.2.2.2) (fun _ => rfl) (fun n p => by kernel_rfl)
theorem E70 : ∀ x, funRun fs X70 6 70 C70 x = C70.fn x := fun x => by kernel_rfl
theorem B70 : ConB Try.prog 70 C70 := ConB.make FS MIX TY (cons := K70) (L := L70) (ptrs := Q70) ⟨S69, trivial⟩ trivial ⟨⟨⟨N, fun p => f_spec_l1Words.l0.ok N p⟩, trivial⟩, trivial⟩ rfl rfl E70
theorem S70 : ConS Try.prog 70 C70 := B70.call rfl
/-! spec.HomeOk: function 60 -/
noncomputable def f_spec_HomeOk.l0 : Nat → Int → Bool → Int → (List Int) → Int → (List Bool) → Bool → Int → Bool → Int → (List (Int × Bool)) → Option ((Bool) ⊕ (Bool))
  | 0, _, _, _, _, _, _, _, _, _, _, _ => none
  | n + 1, p37, p38, p39, p40, p41, p42, p43, p44, p45, p46, p47 =>
    bif (decide (p39 < (p47.length : Int))) then
      bif ((decide ((0 : Int) ≤ p39)) && (decide (p39 < (p47.length : Int)))) then
      (f_spec_l1In ((p47.getD p39.toNat (0, false)).1) 0 (IntKind.wrap .i64 (p37 - (1 : Int)))).bind fun y48 =>
      bif (!y48) then
        some (.inl false)
      else
        f_spec_HomeOk.l0 n p37 p38 (IntKind.wrap .i64 (p39 + (1 : Int))) p40 p41 p42 p43 p44 p45 p46 p47
      else none
    else
      some (.inr p38)
noncomputable def f_spec_HomeOk (x0 : List Int) (x1 : Int) (x2 : List Bool) (x3 : Bool) (x4 : Int) (x5 : Bool) (x6 : Int) (x7 : List (Int × Bool)) (x8 : Int) : Option (Bool) :=
  (f_spec_l1In x8 1 4).bind fun y32 =>
  bif (!y32) then
    some false
  else
    (f_spec_l1Words x0 4).bind fun y33 =>
    bif (!y33) then
      some false
    else
      (f_spec_l1In x1 (-1) (IntKind.wrap .i64 (x8 - (1 : Int)))).bind fun y34 =>
      bif (!y34) then
        some false
      else
        bif (!(decide ((x2.length : Int) = x8))) then
          some false
        else
          (f_spec_l1In x4 0 (IntKind.wrap .i64 (x8 - (1 : Int)))).bind fun y35 =>
          bif (!y35) then
            some false
          else
            (f_spec_l1In x6 0 x8).bind fun y36 =>
            bif (!y36) then
              some false
            else
              bif (decide ((12 : Int) < (x7.length : Int))) then
                some false
              else
                (f_spec_HomeOk.l0 N x8 false 0 x0 x1 x2 x3 x4 x5 x6 x7).bind fun r49 =>
                cs r49 (fun a50 =>
                  some a50) (fun b51 =>
                  some true)
noncomputable def C60 : Con := ⟨[(.B, true, [(.sl R0), (.int .i64), (.sl R1), .bool, (.int .i64), .bool, (.int .i64), (.sl R2)]), (.B, false, [(.int .i64)])], [(false, [.bool])], [(.sl R0), (.int .i64), (.sl R1), .bool, (.int .i64), .bool, (.int .i64), (.sl R2), (.int .i64)], [.bool], fun (p : List Int × Int × List Bool × Bool × Int × Bool × Int × (List (Int × Bool)) × Int) => f_spec_HomeOk p.1 p.2.1 p.2.2.1 p.2.2.2.1 p.2.2.2.2.1 p.2.2.2.2.2.1 p.2.2.2.2.2.2.1 p.2.2.2.2.2.2.2.1 p.2.2.2.2.2.2.2.2⟩
noncomputable def f_spec_HomeOk.l0.c : LoopCon := ⟨1000, 6, [1, 2, 4, 5], ⟨[(1, .int .i64 0), (2, .ptr 1000 0), (4, .bool false), (5, .int .i64 0)], [(1000, .box [.bor none R0 [], .int .i64 0, .bor none R1 [], .bool false, .int .i64 0, .bool false, .int .i64 0, .bor none R2 []])], 1001⟩, [(.int .i64), .bool, (.int .i64), (.sl R0), (.int .i64), (.sl R1), .bool, (.int .i64), .bool, (.int .i64), (.sl R2)], [⟨.ret, [4], ⟨[(4, .bool false)], [], 1000⟩, [.bool]⟩, ⟨.exit 0, [4], ⟨[(4, .bool false)], [], 1000⟩, [.bool]⟩], fun (p : Int × Bool × Int × List Int × Int × List Bool × Bool × Int × Bool × Int × (List (Int × Bool))) => f_spec_HomeOk.l0 N p.1 p.2.1 p.2.2.1 p.2.2.2.1 p.2.2.2.2.1 p.2.2.2.2.2.1 p.2.2.2.2.2.2.1 p.2.2.2.2.2.2.2.1 p.2.2.2.2.2.2.2.2.1 p.2.2.2.2.2.2.2.2.2.1 p.2.2.2.2.2.2.2.2.2.2⟩
noncomputable abbrev K60 : Cons := [(69, C69), (70, C70)]
noncomputable abbrev L60 : List (Nat × Loops) := [(60, [(4, f_spec_HomeOk.l0.c)])]
abbrev Q60 : List (Nat × List (Int × Nat) × Nat) := []
noncomputable abbrev X60 : Nat → Ctx := ctxOf tb K60 L60 Q60
theorem f_spec_HomeOk.l0.ok : ∀ n p, (fun (p : Int × Bool × Int × List Int × Int × List Bool × Bool × Int × Bool × Int × (List (Int × Bool))) => f_spec_HomeOk.l0 n p.1 p.2.1 p.2.2.1 p.2.2.2.1 p.2.2.2.2.1 p.2.2.2.2.2.1 p.2.2.2.2.2.2.1 p.2.2.2.2.2.2.2.1 p.2.2.2.2.2.2.2.2.1 p.2.2.2.2.2.2.2.2.2.1 p.2.2.2.2.2.2.2.2.2.2) p = iterD (roundOf fs X60 6 60 4 false f_spec_HomeOk.l0.c) n p :=
  iter_of (l := fun n => fun (p : Int × Bool × Int × List Int × Int × List Bool × Bool × Int × Bool × Int × (List (Int × Bool))) => f_spec_HomeOk.l0 n p.1 p.2.1 p.2.2.1 p.2.2.2.1 p.2.2.2.2.1 p.2.2.2.2.2.1 p.2.2.2.2.2.2.1 p.2.2.2.2.2.2.2.1 p.2.2.2.2.2.2.2.2.1 p.2.2.2.2.2.2.2.2.2.1 p.2.2.2.2.2.2.2.2.2.2) (fun _ => rfl) (fun n p => by kernel_rfl)
theorem E60 : ∀ x, funRun fs X60 6 60 C60 x = C60.fn x := fun x => by kernel_rfl
theorem B60 : ConB Try.prog 60 C60 := ConB.make FS MIX TY (cons := K60) (L := L60) (ptrs := Q60) ⟨S69, S70, trivial⟩ trivial ⟨⟨⟨N, fun p => f_spec_HomeOk.l0.ok N p⟩, trivial⟩, trivial⟩ rfl rfl E60
theorem S60 : ConS Try.prog 60 C60 := B60.call rfl
/-! impl.from: function 71 -/
noncomputable def f_impl_from (x0 : Int) (x1 : Int) (x2 : Int) : Option (Bool) :=
  bif (decide (x1 ≤ x0)) then
    some (decide (x0 ≤ x2))
  else
    some false
noncomputable def C71 : Con := ⟨[(.B, false, [(.int .i64)]), (.B, false, [(.int .i64)]), (.B, false, [(.int .i64)])], [(false, [.bool])], [(.int .i64), (.int .i64), (.int .i64)], [.bool], fun (p : Int × Int × Int) => f_impl_from p.1 p.2.1 p.2.2⟩
noncomputable abbrev K71 : Cons := []
noncomputable abbrev L71 : List (Nat × Loops) := []
abbrev Q71 : List (Nat × List (Int × Nat) × Nat) := []
noncomputable abbrev X71 : Nat → Ctx := ctxOf tb K71 L71 Q71
theorem E71 : ∀ x, funRun fs X71 6 71 C71 x = C71.fn x := fun x => by kernel_rfl
theorem B71 : ConB Try.prog 71 C71 := ConB.make FS MIX TY (cons := K71) (L := L71) (ptrs := Q71) trivial trivial trivial rfl rfl E71
theorem S71 : ConS Try.prog 71 C71 := B71.call rfl
/-! impl.isWord: function 83 -/
noncomputable def f_impl_isWord (x0 : Int) : Option (Bool) :=
  (f_impl_from x0 0 65535).bind fun y52 =>
  some y52
noncomputable def C83 : Con := ⟨[(.B, false, [(.int .i64)])], [(false, [.bool])], [(.int .i64)], [.bool], fun (p : Int) => f_impl_isWord p⟩
noncomputable abbrev K83 : Cons := [(71, C71)]
noncomputable abbrev L83 : List (Nat × Loops) := []
abbrev Q83 : List (Nat × List (Int × Nat) × Nat) := []
noncomputable abbrev X83 : Nat → Ctx := ctxOf tb K83 L83 Q83
theorem E83 : ∀ x, funRun fs X83 6 83 C83 x = C83.fn x := fun x => by kernel_rfl
theorem B83 : ConB Try.prog 83 C83 := ConB.make FS MIX TY (cons := K83) (L := L83) (ptrs := Q83) ⟨S71, trivial⟩ trivial trivial rfl rfl E83
theorem S83 : ConS Try.prog 83 C83 := B83.call rfl
/-! impl.wordsOk$1: function 114 -/
noncomputable def f_impl_wordsOk_1 (x0 : Int) : Option (Bool) :=
  (f_impl_isWord x0).bind fun y53 =>
  some (!y53)
noncomputable def C114 : Con := ⟨[(.B, false, [(.int .i64)])], [(false, [.bool])], [(.int .i64)], [.bool], fun (p : Int) => f_impl_wordsOk_1 p⟩
noncomputable abbrev K114 : Cons := [(83, C83)]
noncomputable abbrev L114 : List (Nat × Loops) := []
abbrev Q114 : List (Nat × List (Int × Nat) × Nat) := []
noncomputable abbrev X114 : Nat → Ctx := ctxOf tb K114 L114 Q114
theorem E114 : ∀ x, funRun fs X114 6 114 C114 x = C114.fn x := fun x => by kernel_rfl
theorem B114 : ConB Try.prog 114 C114 := ConB.make FS MIX TY (cons := K114) (L := L114) (ptrs := Q114) ⟨S83, trivial⟩ trivial trivial rfl rfl E114
theorem S114 : ConS Try.prog 114 C114 := B114.call rfl
/-! impl.wordsOk: function 73 -/
noncomputable def f_impl_wordsOk.l0 : Nat → (List Int) → Int → Int → Int → Option ((Int) ⊕ (Int))
  | 0, _, _, _, _ => none
  | n + 1, p54, p55, p56, p57 =>
    bif (decide (p57 < p56)) then
      bif ((decide ((0 : Int) ≤ p57)) && (decide (p57 < (p54.length : Int)))) then
      (f_impl_wordsOk_1 (p54.getD p57.toNat 0)).bind fun y58 =>
      bif y58 then
        some (.inl p57)
      else
        f_impl_wordsOk.l0 n p54 p55 p56 (IntKind.wrap .i64 (p57 + (1 : Int)))
      else none
    else
      some (.inr p55)
noncomputable def f_impl_wordsOk (x0 : List Int) (x1 : Int) : Option (Bool) :=
  bif (decide ((x0.length : Int) = x1)) then
    (f_impl_wordsOk.l0 N x0 0 (x0.length : Int) 0).bind fun r59 =>
    cs r59 (fun a60 =>
      some (!(decide ((0 : Int) ≤ a60)))) (fun b61 =>
      some true)
  else
    some false
noncomputable def C73 : Con := ⟨[(.B, false, [(.sl R0)]), (.B, false, [(.int .i64)])], [(false, [.bool])], [(.sl R0), (.int .i64)], [.bool], fun (p : List Int × Int) => f_impl_wordsOk p.1 p.2⟩
noncomputable def f_impl_wordsOk.l0.c : LoopCon := ⟨1274, 4, [0, 1, 4, 7, 8], ⟨[(0, .bor none R0 []), (1, .func 114 []), (4, .int .i64 0), (7, .int .i64 0), (8, .int .i64 0)], [], 1274⟩, [(.sl R0), (.int .i64), (.int .i64), (.int .i64)], [⟨.ret, [4], ⟨[(4, .int .i64 0)], [], 1274⟩, [(.int .i64)]⟩, ⟨.exit 0, [4], ⟨[(4, .int .i64 0)], [], 1274⟩, [(.int .i64)]⟩], fun (p : List Int × Int × Int × Int) => f_impl_wordsOk.l0 N p.1 p.2.1 p.2.2.1 p.2.2.2⟩
noncomputable abbrev K73 : Cons := [(114, C114)]
noncomputable abbrev L73 : List (Nat × Loops) := [(122, [(2, f_impl_wordsOk.l0.c)])]
abbrev Q73 : List (Nat × List (Int × Nat) × Nat) := []
noncomputable abbrev X73 : Nat → Ctx := ctxOf tb K73 L73 Q73
theorem f_impl_wordsOk.l0.ok : ∀ n p, (fun (p : List Int × Int × Int × Int) => f_impl_wordsOk.l0 n p.1 p.2.1 p.2.2.1 p.2.2.2) p = iterD (roundOf fs X73 4 122 2 true f_impl_wordsOk.l0.c) n p :=
  iter_of (l := fun n => fun (p : List Int × Int × Int × Int) => f_impl_wordsOk.l0 n p.1 p.2.1 p.2.2.1 p.2.2.2) (fun _ => rfl) (fun n p => by kernel_rfl)
theorem E73 : ∀ x, funRun fs X73 6 73 C73 x = C73.fn x := fun x => by kernel_rfl
theorem B73 : ConB Try.prog 73 C73 := ConB.make FS MIX TY (cons := K73) (L := L73) (ptrs := Q73) ⟨S114, trivial⟩ trivial ⟨⟨⟨N, fun p => f_impl_wordsOk.l0.ok N p⟩, trivial⟩, trivial⟩ rfl rfl E73
theorem S73 : ConS Try.prog 73 C73 := B73.call rfl
/-! impl.isOf: function 86 -/
noncomputable def f_impl_isOf (x0 : Int) (x1 : Int) : Option (Bool) :=
  (f_impl_from x1 1 4).bind fun y62 =>
  bif y62 then
    (f_impl_from x0 0 (IntKind.wrap .i64 (x1 - (1 : Int)))).bind fun y63 =>
    some y63
  else
    some false
noncomputable def C86 : Con := ⟨[(.B, false, [(.int .i64)]), (.B, false, [(.int .i64)])], [(false, [.bool])], [(.int .i64), (.int .i64)], [.bool], fun (p : Int × Int) => f_impl_isOf p.1 p.2⟩
noncomputable abbrev K86 : Cons := [(71, C71)]
noncomputable abbrev L86 : List (Nat × Loops) := []
abbrev Q86 : List (Nat × List (Int × Nat) × Nat) := []
noncomputable abbrev X86 : Nat → Ctx := ctxOf tb K86 L86 Q86
theorem E86 : ∀ x, funRun fs X86 6 86 C86 x = C86.fn x := fun x => by kernel_rfl
theorem B86 : ConB Try.prog 86 C86 := ConB.make FS MIX TY (cons := K86) (L := L86) (ptrs := Q86) ⟨S71, trivial⟩ trivial trivial rfl rfl E86
theorem S86 : ConS Try.prog 86 C86 := B86.call rfl
/-! impl.HomeOk$1: function 112 -/
noncomputable def f_impl_HomeOk_1 (x0 : Int) (x1 : Bool) (x2 : Int) : Option (Bool) :=
  (f_impl_isOf x0 x2).bind fun y64 =>
  some (!y64)
noncomputable def C112 : Con := ⟨[(.B, true, [(.int .i64), .bool]), (.Q, false, [(.int .i64)])], [(false, [.bool])], [(.int .i64), .bool, (.int .i64)], [.bool], fun (p : Int × Bool × Int) => f_impl_HomeOk_1 p.1 p.2.1 p.2.2⟩
noncomputable abbrev K112 : Cons := [(86, C86)]
noncomputable abbrev L112 : List (Nat × Loops) := []
abbrev Q112 : List (Nat × List (Int × Nat) × Nat) := []
noncomputable abbrev X112 : Nat → Ctx := ctxOf tb K112 L112 Q112
theorem E112 : ∀ x, funG fs X112 6 112 C112 x = C112.fn x := fun x => by kernel_rfl
theorem B112 : ConG Try.prog 112 C112 := ConG.make FS MIX TY (cons := K112) (L := L112) (ptrs := Q112) ⟨S86, trivial⟩ trivial trivial rfl (by kernel_rfl) E112
theorem S112 : ConS Try.prog 112 C112 := B112.call (by kernel_rfl)
/-! impl.HomeOk: function 62 -/
noncomputable def f_impl_HomeOk.l0 : Nat → (List (Int × Bool)) → Int → Int → Int → (List Int) → Int → (List Bool) → Bool → Int → Bool → Int → (List (Int × Bool)) → Int → Option ((Int × List Int × Int × List Bool × Bool × Int × Bool × Int × (List (Int × Bool)) × Int) ⊕ (Int × List Int × Int × List Bool × Bool × Int × Bool × Int × (List (Int × Bool)) × Int))
  | 0, _, _, _, _, _, _, _, _, _, _, _, _, _ => none
  | n + 1, p70, p71, p72, p73, p74, p75, p76, p77, p78, p79, p80, p81, p82 =>
    bif (decide (p73 < p72)) then
      bif ((decide ((0 : Int) ≤ p73)) && (decide (p73 < (p70.length : Int)))) then
      (f_impl_HomeOk_1 ((p70.getD p73.toNat (0, false)).1) ((p70.getD p73.toNat (0, false)).2) p82).bind fun y83 =>
      bif y83 then
        some (.inl (p73, p74, p75, p76, p77, p78, p79, p80, p81, p82))
      else
        f_impl_HomeOk.l0 n p70 p71 p72 (IntKind.wrap .i64 (p73 + (1 : Int))) p74 p75 p76 p77 p78 p79 p80 p81 p82
      else none
    else
      some (.inr (p71, p74, p75, p76, p77, p78, p79, p80, p81, p82))
noncomputable def f_impl_HomeOk (x0 : List Int) (x1 : Int) (x2 : List Bool) (x3 : Bool) (x4 : Int) (x5 : Bool) (x6 : Int) (x7 : List (Int × Bool)) (x8 : Int) : Option (Bool) :=
  (f_impl_from x8 1 4).bind fun y65 =>
  bif y65 then
    (f_impl_wordsOk x0 4).bind fun y66 =>
    bif y66 then
      (f_impl_from x1 (-1) (IntKind.wrap .i64 (x8 - (1 : Int)))).bind fun y67 =>
      bif y67 then
        bif (decide ((x2.length : Int) = x8)) then
          (f_impl_isOf x4 x8).bind fun y68 =>
          bif y68 then
            (f_impl_from x6 0 x8).bind fun y69 =>
            bif y69 then
              bif (decide ((x7.length : Int) ≤ (12 : Int))) then
                (f_impl_HomeOk.l0 N x7 0 (x7.length : Int) 0 x0 x1 x2 x3 x4 x5 x6 x7 x8).bind fun r84 =>
                cs r84 (fun a85 =>
                  some (!(decide ((0 : Int) ≤ a85.1)))) (fun b86 =>
                  some true)
              else
                some false
            else
              some false
          else
            some false
        else
          some false
      else
        some false
    else
      some false
  else
    some false
noncomputable def C62 : Con := ⟨[(.B, true, [(.sl R0), (.int .i64), (.sl R1), .bool, (.int .i64), .bool, (.int .i64), (.sl R2)]), (.B, false, [(.int .i64)])], [(false, [.bool])], [(.sl R0), (.int .i64), (.sl R1), .bool, (.int .i64), .bool, (.int .i64), (.sl R2), (.int .i64)], [.bool], fun (p : List Int × Int × List Bool × Bool × Int × Bool × Int × (List (Int × Bool)) × Int) => f_impl_HomeOk p.1 p.2.1 p.2.2.1 p.2.2.2.1 p.2.2.2.2.1 p.2.2.2.2.2.1 p.2.2.2.2.2.2.1 p.2.2.2.2.2.2.2.1 p.2.2.2.2.2.2.2.2⟩
noncomputable def f_impl_HomeOk.l0.c : LoopCon := ⟨1921, 4, [0, 1, 4, 7, 8], ⟨[(0, .bor none R2 []), (1, .func 112 [.ptr 1025 0]), (4, .int .i64 0), (7, .int .i64 0), (8, .int .i64 0)], [(1009, .box [.bor (some 0) R0 [], .int .i64 0, .bor (some 2) R1 [], .bool false, .int .i64 0, .bool false, .int .i64 0, .bor (some 7) R2 []]), (1025, .box [.int .i64 0])], 1921⟩, [(.sl R2), (.int .i64), (.int .i64), (.int .i64), (.sl R0), (.int .i64), (.sl R1), .bool, (.int .i64), .bool, (.int .i64), (.sl R2), (.int .i64)], [⟨.ret, [4], ⟨[(4, .int .i64 0)], [(1009, .box [.bor (some 0) R0 [], .int .i64 0, .bor (some 2) R1 [], .bool false, .int .i64 0, .bool false, .int .i64 0, .bor (some 7) R2 []]), (1025, .box [.int .i64 0])], 1921⟩, [(.int .i64), (.sl R0), (.int .i64), (.sl R1), .bool, (.int .i64), .bool, (.int .i64), (.sl R2), (.int .i64)]⟩, ⟨.exit 0, [4], ⟨[(4, .int .i64 0)], [(1009, .box [.bor (some 0) R0 [], .int .i64 0, .bor (some 2) R1 [], .bool false, .int .i64 0, .bool false, .int .i64 0, .bor (some 7) R2 []]), (1025, .box [.int .i64 0])], 1921⟩, [(.int .i64), (.sl R0), (.int .i64), (.sl R1), .bool, (.int .i64), .bool, (.int .i64), (.sl R2), (.int .i64)]⟩], fun (p : (List (Int × Bool)) × Int × Int × Int × List Int × Int × List Bool × Bool × Int × Bool × Int × (List (Int × Bool)) × Int) => f_impl_HomeOk.l0 N p.1 p.2.1 p.2.2.1 p.2.2.2.1 p.2.2.2.2.1 p.2.2.2.2.2.1 p.2.2.2.2.2.2.1 p.2.2.2.2.2.2.2.1 p.2.2.2.2.2.2.2.2.1 p.2.2.2.2.2.2.2.2.2.1 p.2.2.2.2.2.2.2.2.2.2.1 p.2.2.2.2.2.2.2.2.2.2.2.1 p.2.2.2.2.2.2.2.2.2.2.2.2⟩
noncomputable abbrev K62 : Cons := [(71, C71), (73, C73), (86, C86), (112, C112)]
noncomputable abbrev L62 : List (Nat × Loops) := [(121, [(2, f_impl_HomeOk.l0.c)])]
abbrev Q62 : List (Nat × List (Int × Nat) × Nat) := []
noncomputable abbrev X62 : Nat → Ctx := ctxOf tb K62 L62 Q62
theorem f_impl_HomeOk.l0.ok : ∀ n p, (fun (p : (List (Int × Bool)) × Int × Int × Int × List Int × Int × List Bool × Bool × Int × Bool × Int × (List (Int × Bool)) × Int) => f_impl_HomeOk.l0 n p.1 p.2.1 p.2.2.1 p.2.2.2.1 p.2.2.2.2.1 p.2.2.2.2.2.1 p.2.2.2.2.2.2.1 p.2.2.2.2.2.2.2.1 p.2.2.2.2.2.2.2.2.1 p.2.2.2.2.2.2.2.2.2.1 p.2.2.2.2.2.2.2.2.2.2.1 p.2.2.2.2.2.2.2.2.2.2.2.1 p.2.2.2.2.2.2.2.2.2.2.2.2) p = iterD (roundOf fs X62 4 121 2 true f_impl_HomeOk.l0.c) n p :=
  iter_of (l := fun n => fun (p : (List (Int × Bool)) × Int × Int × Int × List Int × Int × List Bool × Bool × Int × Bool × Int × (List (Int × Bool)) × Int) => f_impl_HomeOk.l0 n p.1 p.2.1 p.2.2.1 p.2.2.2.1 p.2.2.2.2.1 p.2.2.2.2.2.1 p.2.2.2.2.2.2.1 p.2.2.2.2.2.2.2.1 p.2.2.2.2.2.2.2.2.1 p.2.2.2.2.2.2.2.2.2.1 p.2.2.2.2.2.2.2.2.2.2.1 p.2.2.2.2.2.2.2.2.2.2.2.1 p.2.2.2.2.2.2.2.2.2.2.2.2) (fun _ => rfl) (fun n p => by kernel_rfl)
theorem E62 : ∀ x, funRun fs X62 6 62 C62 x = C62.fn x := fun x => by kernel_rfl
theorem B62 : ConB Try.prog 62 C62 := ConB.make FS MIX TY (cons := K62) (L := L62) (ptrs := Q62) ⟨S71, S73, S86, S112, trivial⟩ trivial ⟨⟨⟨N, fun p => f_impl_HomeOk.l0.ok N p⟩, trivial⟩, trivial⟩ rfl rfl E62
theorem S62 : ConS Try.prog 62 C62 := B62.call rfl
/-! laws.eqIntS: function 29 -/
noncomputable def f_laws_eqIntS.l0 : Nat → (List Int) → (List Int) → Bool → Int → Option ((Bool) ⊕ (Bool))
  | 0, _, _, _, _ => none
  | n + 1, p87, p88, p89, p90 =>
    bif (decide (p90 < (p87.length : Int))) then
      bif ((decide ((0 : Int) ≤ p90)) && (decide (p90 < (p87.length : Int)))) then
      bif ((decide ((0 : Int) ≤ p90)) && (decide (p90 < (p88.length : Int)))) then
      bif (!(decide ((p87.getD p90.toNat 0) = (p88.getD p90.toNat 0)))) then
        some (.inl false)
      else
        f_laws_eqIntS.l0 n p87 p88 p89 (IntKind.wrap .i64 (p90 + (1 : Int)))
      else none
      else none
    else
      some (.inr p89)
noncomputable def f_laws_eqIntS (x0 : List Int) (x1 : List Int) : Option (Bool) :=
  bif (!(decide ((x0.length : Int) = (x1.length : Int)))) then
    some false
  else
    (f_laws_eqIntS.l0 N x0 x1 false 0).bind fun r91 =>
    cs r91 (fun a92 =>
      some a92) (fun b93 =>
      some true)
noncomputable def C29 : Con := ⟨[(.B, false, [(.sl R0)]), (.B, false, [(.sl R0)])], [(false, [.bool])], [(.sl R0), (.sl R0)], [.bool], fun (p : List Int × List Int) => f_laws_eqIntS p.1 p.2⟩
noncomputable def f_laws_eqIntS.l0.c : LoopCon := ⟨1000, 6, [0, 1, 4, 5], ⟨[(0, .bor none R0 []), (1, .bor none R0 []), (4, .bool false), (5, .int .i64 0)], [], 1000⟩, [(.sl R0), (.sl R0), .bool, (.int .i64)], [⟨.ret, [4], ⟨[(4, .bool false)], [], 1000⟩, [.bool]⟩, ⟨.exit 0, [4], ⟨[(4, .bool false)], [], 1000⟩, [.bool]⟩], fun (p : List Int × List Int × Bool × Int) => f_laws_eqIntS.l0 N p.1 p.2.1 p.2.2.1 p.2.2.2⟩
noncomputable abbrev K29 : Cons := []
noncomputable abbrev L29 : List (Nat × Loops) := [(29, [(4, f_laws_eqIntS.l0.c)])]
abbrev Q29 : List (Nat × List (Int × Nat) × Nat) := []
noncomputable abbrev X29 : Nat → Ctx := ctxOf tb K29 L29 Q29
theorem f_laws_eqIntS.l0.ok : ∀ n p, (fun (p : List Int × List Int × Bool × Int) => f_laws_eqIntS.l0 n p.1 p.2.1 p.2.2.1 p.2.2.2) p = iterD (roundOf fs X29 6 29 4 false f_laws_eqIntS.l0.c) n p :=
  iter_of (l := fun n => fun (p : List Int × List Int × Bool × Int) => f_laws_eqIntS.l0 n p.1 p.2.1 p.2.2.1 p.2.2.2) (fun _ => rfl) (fun n p => by kernel_rfl)
theorem E29 : ∀ x, funRun fs X29 6 29 C29 x = C29.fn x := fun x => by kernel_rfl
theorem B29 : ConB Try.prog 29 C29 := ConB.make FS MIX TY (cons := K29) (L := L29) (ptrs := Q29) trivial trivial ⟨⟨⟨N, fun p => f_laws_eqIntS.l0.ok N p⟩, trivial⟩, trivial⟩ rfl rfl E29
theorem S29 : ConS Try.prog 29 C29 := B29.call rfl
/-! laws.eqBoolS: function 88 -/
noncomputable def f_laws_eqBoolS.l0 : Nat → (List Bool) → (List Bool) → Bool → Int → Option ((Bool) ⊕ (Bool))
  | 0, _, _, _, _ => none
  | n + 1, p94, p95, p96, p97 =>
    bif (decide (p97 < (p94.length : Int))) then
      bif ((decide ((0 : Int) ≤ p97)) && (decide (p97 < (p94.length : Int)))) then
      bif ((decide ((0 : Int) ≤ p97)) && (decide (p97 < (p95.length : Int)))) then
      bif (!((p94.getD p97.toNat false) == (p95.getD p97.toNat false))) then
        some (.inl false)
      else
        f_laws_eqBoolS.l0 n p94 p95 p96 (IntKind.wrap .i64 (p97 + (1 : Int)))
      else none
      else none
    else
      some (.inr p96)
noncomputable def f_laws_eqBoolS (x0 : List Bool) (x1 : List Bool) : Option (Bool) :=
  bif (!(decide ((x0.length : Int) = (x1.length : Int)))) then
    some false
  else
    (f_laws_eqBoolS.l0 N x0 x1 false 0).bind fun r98 =>
    cs r98 (fun a99 =>
      some a99) (fun b100 =>
      some true)
noncomputable def C88 : Con := ⟨[(.B, false, [(.sl R1)]), (.B, false, [(.sl R1)])], [(false, [.bool])], [(.sl R1), (.sl R1)], [.bool], fun (p : List Bool × List Bool) => f_laws_eqBoolS p.1 p.2⟩
noncomputable def f_laws_eqBoolS.l0.c : LoopCon := ⟨1000, 6, [0, 1, 4, 5], ⟨[(0, .bor none R1 []), (1, .bor none R1 []), (4, .bool false), (5, .int .i64 0)], [], 1000⟩, [(.sl R1), (.sl R1), .bool, (.int .i64)], [⟨.ret, [4], ⟨[(4, .bool false)], [], 1000⟩, [.bool]⟩, ⟨.exit 0, [4], ⟨[(4, .bool false)], [], 1000⟩, [.bool]⟩], fun (p : List Bool × List Bool × Bool × Int) => f_laws_eqBoolS.l0 N p.1 p.2.1 p.2.2.1 p.2.2.2⟩
noncomputable abbrev K88 : Cons := []
noncomputable abbrev L88 : List (Nat × Loops) := [(88, [(4, f_laws_eqBoolS.l0.c)])]
abbrev Q88 : List (Nat × List (Int × Nat) × Nat) := []
noncomputable abbrev X88 : Nat → Ctx := ctxOf tb K88 L88 Q88
theorem f_laws_eqBoolS.l0.ok : ∀ n p, (fun (p : List Bool × List Bool × Bool × Int) => f_laws_eqBoolS.l0 n p.1 p.2.1 p.2.2.1 p.2.2.2) p = iterD (roundOf fs X88 6 88 4 false f_laws_eqBoolS.l0.c) n p :=
  iter_of (l := fun n => fun (p : List Bool × List Bool × Bool × Int) => f_laws_eqBoolS.l0 n p.1 p.2.1 p.2.2.1 p.2.2.2) (fun _ => rfl) (fun n p => by kernel_rfl)
theorem E88 : ∀ x, funRun fs X88 6 88 C88 x = C88.fn x := fun x => by kernel_rfl
theorem B88 : ConB Try.prog 88 C88 := ConB.make FS MIX TY (cons := K88) (L := L88) (ptrs := Q88) trivial trivial ⟨⟨⟨N, fun p => f_laws_eqBoolS.l0.ok N p⟩, trivial⟩, trivial⟩ rfl rfl E88
theorem S88 : ConS Try.prog 88 C88 := B88.call rfl
/-! laws.eqWait: function 89 -/
noncomputable def f_laws_eqWait (x0 : Int) (x1 : Bool) (x2 : Int) (x3 : Bool) : Option (Bool) :=
  bif (!(decide (x0 = x2))) then
    some false
  else
    bif (!(x1 == x3)) then
      some false
    else
      some true
noncomputable def C89 : Con := ⟨[(.B, true, [(.int .i64), .bool]), (.B, true, [(.int .i64), .bool])], [(false, [.bool])], [(.int .i64), .bool, (.int .i64), .bool], [.bool], fun (p : Int × Bool × Int × Bool) => f_laws_eqWait p.1 p.2.1 p.2.2.1 p.2.2.2⟩
noncomputable abbrev K89 : Cons := []
noncomputable abbrev L89 : List (Nat × Loops) := []
abbrev Q89 : List (Nat × List (Int × Nat) × Nat) := []
noncomputable abbrev X89 : Nat → Ctx := ctxOf tb K89 L89 Q89
theorem E89 : ∀ x, funRun fs X89 6 89 C89 x = C89.fn x := fun x => by kernel_rfl
theorem B89 : ConB Try.prog 89 C89 := ConB.make FS MIX TY (cons := K89) (L := L89) (ptrs := Q89) trivial trivial trivial rfl rfl E89
theorem S89 : ConS Try.prog 89 C89 := B89.call rfl
/-! laws.eqWaitS: function 90 -/
noncomputable def f_laws_eqWaitS.l0 : Nat → (List (Int × Bool)) → (List (Int × Bool)) → Bool → Int → Option ((Bool) ⊕ (Bool))
  | 0, _, _, _, _ => none
  | n + 1, p101, p102, p103, p104 =>
    bif (decide (p104 < (p101.length : Int))) then
      bif ((decide ((0 : Int) ≤ p104)) && (decide (p104 < (p101.length : Int)))) then
      bif ((decide ((0 : Int) ≤ p104)) && (decide (p104 < (p102.length : Int)))) then
      (f_laws_eqWait ((p101.getD p104.toNat (0, false)).1) ((p101.getD p104.toNat (0, false)).2) ((p102.getD p104.toNat (0, false)).1) ((p102.getD p104.toNat (0, false)).2)).bind fun y105 =>
      bif (!y105) then
        some (.inl false)
      else
        f_laws_eqWaitS.l0 n p101 p102 p103 (IntKind.wrap .i64 (p104 + (1 : Int)))
      else none
      else none
    else
      some (.inr p103)
noncomputable def f_laws_eqWaitS (x0 : List (Int × Bool)) (x1 : List (Int × Bool)) : Option (Bool) :=
  bif (!(decide ((x0.length : Int) = (x1.length : Int)))) then
    some false
  else
    (f_laws_eqWaitS.l0 N x0 x1 false 0).bind fun r106 =>
    cs r106 (fun a107 =>
      some a107) (fun b108 =>
      some true)
noncomputable def C90 : Con := ⟨[(.B, false, [(.sl R2)]), (.B, false, [(.sl R2)])], [(false, [.bool])], [(.sl R2), (.sl R2)], [.bool], fun (p : (List (Int × Bool)) × (List (Int × Bool))) => f_laws_eqWaitS p.1 p.2⟩
noncomputable def f_laws_eqWaitS.l0.c : LoopCon := ⟨1000, 6, [0, 1, 4, 5], ⟨[(0, .bor none R2 []), (1, .bor none R2 []), (4, .bool false), (5, .int .i64 0)], [], 1000⟩, [(.sl R2), (.sl R2), .bool, (.int .i64)], [⟨.ret, [4], ⟨[(4, .bool false)], [], 1000⟩, [.bool]⟩, ⟨.exit 0, [4], ⟨[(4, .bool false)], [], 1000⟩, [.bool]⟩], fun (p : (List (Int × Bool)) × (List (Int × Bool)) × Bool × Int) => f_laws_eqWaitS.l0 N p.1 p.2.1 p.2.2.1 p.2.2.2⟩
noncomputable abbrev K90 : Cons := [(89, C89)]
noncomputable abbrev L90 : List (Nat × Loops) := [(90, [(4, f_laws_eqWaitS.l0.c)])]
abbrev Q90 : List (Nat × List (Int × Nat) × Nat) := []
noncomputable abbrev X90 : Nat → Ctx := ctxOf tb K90 L90 Q90
theorem f_laws_eqWaitS.l0.ok : ∀ n p, (fun (p : (List (Int × Bool)) × (List (Int × Bool)) × Bool × Int) => f_laws_eqWaitS.l0 n p.1 p.2.1 p.2.2.1 p.2.2.2) p = iterD (roundOf fs X90 6 90 4 false f_laws_eqWaitS.l0.c) n p :=
  iter_of (l := fun n => fun (p : (List (Int × Bool)) × (List (Int × Bool)) × Bool × Int) => f_laws_eqWaitS.l0 n p.1 p.2.1 p.2.2.1 p.2.2.2) (fun _ => rfl) (fun n p => by kernel_rfl)
theorem E90 : ∀ x, funRun fs X90 6 90 C90 x = C90.fn x := fun x => by kernel_rfl
theorem B90 : ConB Try.prog 90 C90 := ConB.make FS MIX TY (cons := K90) (L := L90) (ptrs := Q90) ⟨S89, trivial⟩ trivial ⟨⟨⟨N, fun p => f_laws_eqWaitS.l0.ok N p⟩, trivial⟩, trivial⟩ rfl rfl E90
theorem S90 : ConS Try.prog 90 C90 := B90.call rfl
/-! laws.eqHome: function 41 -/
noncomputable def f_laws_eqHome (x0 : List Int) (x1 : Int) (x2 : List Bool) (x3 : Bool) (x4 : Int) (x5 : Bool) (x6 : Int) (x7 : List (Int × Bool)) (x8 : List Int) (x9 : Int) (x10 : List Bool) (x11 : Bool) (x12 : Int) (x13 : Bool) (x14 : Int) (x15 : List (Int × Bool)) : Option (Bool) :=
  (f_laws_eqIntS x0 x8).bind fun y109 =>
  bif (!y109) then
    some false
  else
    bif (!(decide (x1 = x9))) then
      some false
    else
      (f_laws_eqBoolS x2 x10).bind fun y110 =>
      bif (!y110) then
        some false
      else
        bif (!(x3 == x11)) then
          some false
        else
          (f_laws_eqWait x4 x5 x12 x13).bind fun y111 =>
          bif (!y111) then
            some false
          else
            bif (!(decide (x6 = x14))) then
              some false
            else
              (f_laws_eqWaitS x7 x15).bind fun y112 =>
              bif (!y112) then
                some false
              else
                some true
noncomputable def C41 : Con := ⟨[(.B, true, [(.sl R0), (.int .i64), (.sl R1), .bool, (.int .i64), .bool, (.int .i64), (.sl R2)]), (.B, true, [(.sl R0), (.int .i64), (.sl R1), .bool, (.int .i64), .bool, (.int .i64), (.sl R2)])], [(false, [.bool])], [(.sl R0), (.int .i64), (.sl R1), .bool, (.int .i64), .bool, (.int .i64), (.sl R2), (.sl R0), (.int .i64), (.sl R1), .bool, (.int .i64), .bool, (.int .i64), (.sl R2)], [.bool], fun (p : List Int × Int × List Bool × Bool × Int × Bool × Int × (List (Int × Bool)) × List Int × Int × List Bool × Bool × Int × Bool × Int × (List (Int × Bool))) => f_laws_eqHome p.1 p.2.1 p.2.2.1 p.2.2.2.1 p.2.2.2.2.1 p.2.2.2.2.2.1 p.2.2.2.2.2.2.1 p.2.2.2.2.2.2.2.1 p.2.2.2.2.2.2.2.2.1 p.2.2.2.2.2.2.2.2.2.1 p.2.2.2.2.2.2.2.2.2.2.1 p.2.2.2.2.2.2.2.2.2.2.2.1 p.2.2.2.2.2.2.2.2.2.2.2.2.1 p.2.2.2.2.2.2.2.2.2.2.2.2.2.1 p.2.2.2.2.2.2.2.2.2.2.2.2.2.2.1 p.2.2.2.2.2.2.2.2.2.2.2.2.2.2.2⟩
noncomputable abbrev K41 : Cons := [(29, C29), (88, C88), (89, C89), (90, C90)]
noncomputable abbrev L41 : List (Nat × Loops) := []
abbrev Q41 : List (Nat × List (Int × Nat) × Nat) := []
noncomputable abbrev X41 : Nat → Ctx := ctxOf tb K41 L41 Q41
theorem E41 : ∀ x, funRun fs X41 6 41 C41 x = C41.fn x := fun x => by kernel_rfl
theorem B41 : ConB Try.prog 41 C41 := ConB.make FS MIX TY (cons := K41) (L := L41) (ptrs := Q41) ⟨S29, S88, S89, S90, trivial⟩ trivial trivial rfl rfl E41
theorem S41 : ConS Try.prog 41 C41 := B41.call rfl
/-! laws.FnExactHomeOk: function 13 -/
noncomputable def f_laws_FnExactHomeOk (x0 : List Int) (x1 : Int) (x2 : List Bool) (x3 : Bool) (x4 : Int) (x5 : Bool) (x6 : Int) (x7 : List (Int × Bool)) (x8 : Int) : Option (Bool) :=
  (f_laws_szHome x0 x1 x2 x3 x4 x5 x6 x7 1048576).bind fun y113 =>
  bif (decide (y113 < (0 : Int))) then
    some true
  else
    (f_laws_toHome x0 x1 x2 x3 x4 x5 x6 x7).bind fun y114 =>
    (f_spec_HomeOk y114.1 y114.2.1 y114.2.2.1 y114.2.2.2.1 y114.2.2.2.2.1 y114.2.2.2.2.2.1 y114.2.2.2.2.2.2.1 y114.2.2.2.2.2.2.2 x8).bind fun y115 =>
    (f_laws_toHome x0 x1 x2 x3 x4 x5 x6 x7).bind fun y116 =>
    (f_impl_HomeOk y116.1 y116.2.1 y116.2.2.1 y116.2.2.2.1 y116.2.2.2.2.1 y116.2.2.2.2.2.1 y116.2.2.2.2.2.2.1 y116.2.2.2.2.2.2.2 x8).bind fun y117 =>
    bif (!(y117 == y115)) then
      some false
    else
      (f_laws_toHome x0 x1 x2 x3 x4 x5 x6 x7).bind fun y118 =>
      (f_laws_eqHome y116.1 y116.2.1 y116.2.2.1 y116.2.2.2.1 y116.2.2.2.2.1 y116.2.2.2.2.2.1 y116.2.2.2.2.2.2.1 y116.2.2.2.2.2.2.2 y118.1 y118.2.1 y118.2.2.1 y118.2.2.2.1 y118.2.2.2.2.1 y118.2.2.2.2.2.1 y118.2.2.2.2.2.2.1 y118.2.2.2.2.2.2.2).bind fun y119 =>
      bif (!y119) then
        some false
      else
        some true
noncomputable def C13 : Con := ⟨[(.B, true, [(.sl R0), (.int .i64), (.sl R1), .bool, (.int .i64), .bool, (.int .i64), (.sl R2)]), (.B, false, [(.int .i64)])], [(false, [.bool])], [(.sl R0), (.int .i64), (.sl R1), .bool, (.int .i64), .bool, (.int .i64), (.sl R2), (.int .i64)], [.bool], fun (p : List Int × Int × List Bool × Bool × Int × Bool × Int × (List (Int × Bool)) × Int) => f_laws_FnExactHomeOk p.1 p.2.1 p.2.2.1 p.2.2.2.1 p.2.2.2.2.1 p.2.2.2.2.2.1 p.2.2.2.2.2.2.1 p.2.2.2.2.2.2.2.1 p.2.2.2.2.2.2.2.2⟩
noncomputable abbrev K13 : Cons := [(41, C41), (59, C59), (60, C60), (61, C61), (62, C62)]
noncomputable abbrev L13 : List (Nat × Loops) := []
abbrev Q13 : List (Nat × List (Int × Nat) × Nat) := []
noncomputable abbrev X13 : Nat → Ctx := ctxOf tb K13 L13 Q13
theorem E13 : ∀ x, funRun fs X13 6 13 C13 x = C13.fn x := fun x => by kernel_rfl
theorem B13 : ConB Try.prog 13 C13 := ConB.make FS MIX TY (cons := K13) (L := L13) (ptrs := Q13) ⟨S41, S59, S60, S61, S62, trivial⟩ trivial trivial rfl rfl E13
theorem S13 : ConS Try.prog 13 C13 := B13.call rfl
/-- What is left: the plain law. -/
def Pure : Prop := ∀ x : Tup [(.sl R0), (.int .i64), (.sl R1), .bool, (.int .i64), .bool, (.int .i64), (.sl R2), (.int .i64)], WfT [(.sl R0), (.int .i64), (.sl R1), .bool, (.int .i64), .bool, (.int .i64), (.sl R2), (.int .i64)] x → C13.fn x = some (true : Bool)
end
end Go.Abs
