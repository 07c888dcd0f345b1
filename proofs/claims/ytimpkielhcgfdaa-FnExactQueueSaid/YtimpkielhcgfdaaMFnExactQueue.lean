import Derived.Test.YtimpkielhcgfdaaProg
import Derived.Test.YtimpkielhcgfdaaAbsD
import Derived.KernelRfl
namespace Go.Abs
open Go.Proofs
set_option linter.unusedVariables false
set_option maxRecDepth 100000
noncomputable section
abbrev N : Nat := 1152921504606846976
abbrev R0 : RT := .one (.int .i64)
abbrev R1 : RT := .cons (.int .i64) (.cons (.int .i64) (.cons .bool (.one (.sl R0))))
noncomputable def tb : Tb := [(0, ⟨false, [], [], 0, 0⟩),
  (3, ⟨false, [(.int .i64)], [], 0, 8⟩),
  (4, ⟨false, [.bool], [], 0, 1⟩),
  (22, ⟨false, [(.sl R0)], [], 3, 24⟩),
  (37, ⟨false, [(.sl R1)], [], 51, 24⟩),
  (39, ⟨true, [(.int .i64), (.sl R1)], [(0, 3), (1, 37)], 0, 32⟩),
  (51, ⟨true, [(.int .i64), (.int .i64), .bool, (.sl R0)], [(0, 3), (1, 3), (2, 4), (3, 22)], 0, 48⟩),
  (54, ⟨false, [], [], 0, 8⟩),
  (85, ⟨false, [], [], 0, 0⟩),
  (92, ⟨false, [(.sl R1)], [], 100, 24⟩),
  (94, ⟨true, [(.int .i64), (.sl R1)], [(0, 3), (1, 92)], 0, 32⟩),
  (100, ⟨true, [(.int .i64), (.int .i64), .bool, (.sl R0)], [(0, 3), (1, 3), (2, 4), (3, 22)], 0, 48⟩),
  (156, ⟨false, [], [], 0, 8⟩)]
noncomputable def fsL : List (Nat × Func) := [(148, Try.f148), (76, Try.f76), (143, Try.f143), (71, Try.f71), (17, Try.f17), (77, Try.f77), (144, Try.f144), (72, Try.f72), (140, Try.f140), (139, Try.f139), (97, Try.f97), (126, Try.f126), (45, Try.f45), (33, Try.f33), (66, Try.f66), (100, Try.f100), (138, Try.f138), (111, Try.f111), (103, Try.f103), (112, Try.f112), (119, Try.f119), (137, Try.f137), (180, Try.f180), (207, Try.f207), (179, Try.f179), (120, Try.f120), (37, Try.f37), (114, Try.f114), (178, Try.f178), (113, Try.f113), (32, Try.f32), (65, Try.f65), (20, Try.f20), (78, Try.f78), (145, Try.f145), (73, Try.f73), (22, Try.f22), (146, Try.f146), (74, Try.f74), (79, Try.f79), (24, Try.f24), (147, Try.f147), (75, Try.f75), (12, Try.f12)]
noncomputable def fs : Nat → Option Func := getF fsL
theorem MIX : Try.prog.follows .mixedOrders = true := by kernel_rfl
theorem TY : tyCheck Try.prog tb = true := by kernel_rfl
theorem CAT : catCheck tb = true := by kernel_rfl
theorem FSP : FsP Try.prog fsL := ⟨Try.func148, Try.func76, Try.func143, Try.func71, Try.func17, Try.func77, Try.func144, Try.func72, Try.func140, Try.func139, Try.func97, Try.func126, Try.func45, Try.func33, Try.func66, Try.func100, Try.func138, Try.func111, Try.func103, Try.func112, Try.func119, Try.func137, Try.func180, Try.func207, Try.func179, Try.func120, Try.func37, Try.func114, Try.func178, Try.func113, Try.func32, Try.func65, Try.func20, Try.func78, Try.func145, Try.func73, Try.func22, Try.func146, Try.func74, Try.func79, Try.func24, Try.func147, Try.func75, Try.func12, trivial⟩
theorem FSC : (fsL.all fun p => fnChk p.2) = true := by kernel_rfl
theorem FS : FsS Try.prog fs := FsS.of FSP FSC
/-! laws.szIntS: function 148 -/
noncomputable def f_laws_szIntS (x0 : List Int) (x1 : Int) : Option (Int) :=
  bif (decide ((IntKind.wrap .i64 (x1 - (x0.length : Int))) < (0 : Int))) then
    some (-1)
  else
    some (IntKind.wrap .i64 (x1 - (x0.length : Int)))
noncomputable def C148 : Con := ⟨[(.B, false, [(.sl R0)]), (.B, false, [(.int .i64)])], [(false, [(.int .i64)])], [(.sl R0), (.int .i64)], [(.int .i64)], fun (p : List Int × Int) => f_laws_szIntS p.1 p.2⟩
noncomputable abbrev K148 : Cons := []
noncomputable abbrev L148 : List (Nat × Loops) := []
abbrev Q148 : List (Nat × List (Int × Nat) × Nat) := []
noncomputable abbrev X148 : Nat → Ctx := ctxOf tb K148 L148 Q148
theorem E148 : ∀ x, funRun fs X148 6 148 C148 x = C148.fn x := fun x => by kernel_rfl
theorem B148 : ConB Try.prog 148 C148 := ConB.make FS MIX TY (cons := K148) (L := L148) (ptrs := Q148) trivial trivial trivial rfl rfl E148
theorem S148 : ConS Try.prog 148 C148 := B148.call rfl
/-! laws.szMsg: function 76 -/
noncomputable def f_laws_szMsg (x0 : Int) (x1 : Int) (x2 : Bool) (x3 : List Int) (x4 : Int) : Option (Int) :=
  (f_laws_szIntS x3 x4).bind fun y1 =>
  bif (decide (y1 < (0 : Int))) then
    some (-1)
  else
    some y1
noncomputable def C76 : Con := ⟨[(.B, true, [(.int .i64), (.int .i64), .bool, (.sl R0)]), (.B, false, [(.int .i64)])], [(false, [(.int .i64)])], [(.int .i64), (.int .i64), .bool, (.sl R0), (.int .i64)], [(.int .i64)], fun (p : Int × Int × Bool × List Int × Int) => f_laws_szMsg p.1 p.2.1 p.2.2.1 p.2.2.2.1 p.2.2.2.2⟩
noncomputable abbrev K76 : Cons := [(148, C148)]
noncomputable abbrev L76 : List (Nat × Loops) := []
abbrev Q76 : List (Nat × List (Int × Nat) × Nat) := []
noncomputable abbrev X76 : Nat → Ctx := ctxOf tb K76 L76 Q76
theorem E76 : ∀ x, funRun fs X76 6 76 C76 x = C76.fn x := fun x => by kernel_rfl
theorem B76 : ConB Try.prog 76 C76 := ConB.make FS MIX TY (cons := K76) (L := L76) (ptrs := Q76) ⟨S148, trivial⟩ trivial trivial rfl rfl E76
theorem S76 : ConS Try.prog 76 C76 := B76.call rfl
/-! laws.szMsgS: function 143 -/
noncomputable def f_laws_szMsgS.l0 : Nat → (List (Int × Int × Bool × List Int)) → Int → Int → Int → Option ((Int) ⊕ (Int × Int))
  | 0, _, _, _, _ => none
  | n + 1, p2, p3, p4, p5 =>
    bif (decide (p5 < (p2.length : Int))) then
      bif ((decide ((0 : Int) ≤ p5)) && (decide (p5 < (p2.length : Int)))) then
      (f_laws_szMsg ((p2.getD p5.toNat (0, 0, false, [])).1) ((p2.getD p5.toNat (0, 0, false, [])).2.1) ((p2.getD p5.toNat (0, 0, false, [])).2.2.1) ((p2.getD p5.toNat (0, 0, false, [])).2.2.2) p3).bind fun y6 =>
      bif (decide (y6 < (0 : Int))) then
        some (.inl (-1))
      else
        f_laws_szMsgS.l0 n p2 y6 p4 (IntKind.wrap .i64 (p5 + (1 : Int)))
      else none
    else
      some (.inr (p3, p4))
noncomputable def f_laws_szMsgS (x0 : List (Int × Int × Bool × List Int)) (x1 : Int) : Option (Int) :=
  bif (decide ((IntKind.wrap .i64 (x1 - (x0.length : Int))) < (0 : Int))) then
    some (-1)
  else
    (f_laws_szMsgS.l0 N x0 (IntKind.wrap .i64 (x1 - (x0.length : Int))) 0 0).bind fun r7 =>
    cs r7 (fun a8 =>
      some a8) (fun b9 =>
      some b9.1)
noncomputable def C143 : Con := ⟨[(.B, false, [(.sl R1)]), (.B, false, [(.int .i64)])], [(false, [(.int .i64)])], [(.sl R1), (.int .i64)], [(.int .i64)], fun (p : (List (Int × Int × Bool × List Int)) × Int) => f_laws_szMsgS p.1 p.2⟩
noncomputable def f_laws_szMsgS.l0.c : LoopCon := ⟨1000, 6, [0, 1, 4, 5], ⟨[(0, .bor none R1 []), (1, .int .i64 0), (4, .int .i64 0), (5, .int .i64 0)], [], 1000⟩, [(.sl R1), (.int .i64), (.int .i64), (.int .i64)], [⟨.ret, [4], ⟨[(4, .int .i64 0)], [], 1000⟩, [(.int .i64)]⟩, ⟨.exit 0, [1, 4], ⟨[(1, .int .i64 0), (4, .int .i64 0)], [], 1000⟩, [(.int .i64), (.int .i64)]⟩], fun (p : (List (Int × Int × Bool × List Int)) × Int × Int × Int) => f_laws_szMsgS.l0 N p.1 p.2.1 p.2.2.1 p.2.2.2⟩
noncomputable abbrev K143 : Cons := [(76, C76)]
noncomputable abbrev L143 : List (Nat × Loops) := [(143, [(5, f_laws_szMsgS.l0.c)])]
abbrev Q143 : List (Nat × List (Int × Nat) × Nat) := []
noncomputable abbrev X143 : Nat → Ctx := ctxOf tb K143 L143 Q143
theorem f_laws_szMsgS.l0.ok : ∀ n p, (fun (p : (List (Int × Int × Bool × List Int)) × Int × Int × Int) => f_laws_szMsgS.l0 n p.1 p.2.1 p.2.2.1 p.2.2.2) p = iterD (roundOf fs X143 6 143 5 false f_laws_szMsgS.l0.c) n p :=
  iter_of (l := fun n => fun (p : (List (Int × Int × Bool × List Int)) × Int × Int × Int) => f_laws_szMsgS.l0 n p.1 p.2.1 p.2.2.1 p.2.2.2) (fun _ => rfl) (fun n p => by kernel_rfl)
theorem E143 : ∀ x, funRun fs X143 6 143 C143 x = C143.fn x := fun x => by kernel_rfl
theorem B143 : ConB Try.prog 143 C143 := ConB.make FS MIX TY (cons := K143) (L := L143) (ptrs := Q143) ⟨S76, trivial⟩ trivial ⟨⟨⟨N, fun p => f_laws_szMsgS.l0.ok N p⟩, trivial⟩, trivial⟩ rfl rfl E143
theorem S143 : ConS Try.prog 143 C143 := B143.call rfl
/-! laws.szSender: function 71 -/
noncomputable def f_laws_szSender (x0 : Int) (x1 : List (Int × Int × Bool × List Int)) (x2 : Int) : Option (Int) :=
  (f_laws_szMsgS x1 x2).bind fun y10 =>
  bif (decide (y10 < (0 : Int))) then
    some (-1)
  else
    some y10
noncomputable def C71 : Con := ⟨[(.B, true, [(.int .i64), (.sl R1)]), (.B, false, [(.int .i64)])], [(false, [(.int .i64)])], [(.int .i64), (.sl R1), (.int .i64)], [(.int .i64)], fun (p : Int × (List (Int × Int × Bool × List Int)) × Int) => f_laws_szSender p.1 p.2.1 p.2.2⟩
noncomputable abbrev K71 : Cons := [(143, C143)]
noncomputable abbrev L71 : List (Nat × Loops) := []
abbrev Q71 : List (Nat × List (Int × Nat) × Nat) := []
noncomputable abbrev X71 : Nat → Ctx := ctxOf tb K71 L71 Q71
theorem E71 : ∀ x, funRun fs X71 6 71 C71 x = C71.fn x := fun x => by kernel_rfl
theorem B71 : ConB Try.prog 71 C71 := ConB.make FS MIX TY (cons := K71) (L := L71) (ptrs := Q71) ⟨S143, trivial⟩ trivial trivial rfl rfl E71
theorem S71 : ConS Try.prog 71 C71 := B71.call rfl
/-! laws.toIntS: function 17 -/
noncomputable def f_laws_toIntS.l0 : Nat → (List Int) → Int → (List Int) → Option (List Int)
  | 0, _, _, _ => none
  | n + 1, p11, p12, p13 =>
    bif (decide (p12 < (p11.length : Int))) then
      bif ((decide ((0 : Int) ≤ p12)) && (decide (p12 < (p11.length : Int)))) then
      bif ((decide ((0 : Int) ≤ p12)) && (decide (p12 < (p13.length : Int)))) then
      (some ((p13.set p12.toNat (p11.getD p12.toNat 0)) : List Int)).bind fun z14 =>
      f_laws_toIntS.l0 n p11 (IntKind.wrap .i64 (p12 + (1 : Int))) z14
      else none
      else none
    else
      some p13
noncomputable def f_laws_toIntS (x0 : List Int) : Option (List Int) :=
  bif (decide ((0 : Int) ≤ (x0.length : Int)) && Nat.ble (x0.length : Int).toNat 17592186044416) then
  (f_laws_toIntS.l0 N x0 0 (List.replicate (x0.length : Int).toNat 0)).bind fun r15 =>
  some r15
  else none
noncomputable def C17 : Con := ⟨[(.B, false, [(.sl R0)])], [(false, [(.sl R0)])], [(.sl R0)], [(.sl R0)], fun (p : List Int) => f_laws_toIntS p⟩
noncomputable def f_laws_toIntS.l0.c : LoopCon := ⟨1000, 6, [0, 2, 3, 4], ⟨[(0, .bor none R0 []), (2, .nil (some R0)), (3, .ref 1000 [] none), (4, .int .i64 0)], [(1000, .row R0 [])], 1001⟩, [(.sl R0), (.int .i64), (.sl R0)], [⟨.exit 0, [2, 3], ⟨[(2, .nil (some R0)), (3, .ref 1000 [] none)], [(1000, .row R0 [])], 1001⟩, [(.sl R0)]⟩], fun (p : List Int × Int × List Int) => f_laws_toIntS.l0 N p.1 p.2.1 p.2.2⟩
noncomputable abbrev K17 : Cons := []
noncomputable abbrev L17 : List (Nat × Loops) := [(17, [(3, f_laws_toIntS.l0.c)])]
abbrev Q17 : List (Nat × List (Int × Nat) × Nat) := []
noncomputable abbrev X17 : Nat → Ctx := ctxOf tb K17 L17 Q17
theorem f_laws_toIntS.l0.ok : ∀ n p, (fun (p : List Int × Int × List Int) => f_laws_toIntS.l0 n p.1 p.2.1 p.2.2) p = iterD (roundOf fs X17 6 17 3 false f_laws_toIntS.l0.c) n p :=
  iter_of (l := fun n => fun (p : List Int × Int × List Int) => f_laws_toIntS.l0 n p.1 p.2.1 p.2.2) (fun _ => rfl) (fun n p => by kernel_rfl)
theorem E17 : ∀ x, funRun fs X17 6 17 C17 x = C17.fn x := fun x => by kernel_rfl
theorem B17 : ConB Try.prog 17 C17 := ConB.make FS MIX TY (cons := K17) (L := L17) (ptrs := Q17) trivial trivial ⟨⟨⟨N, fun p => f_laws_toIntS.l0.ok N p⟩, trivial⟩, trivial⟩ rfl rfl E17
theorem S17 : ConS Try.prog 17 C17 := B17.call rfl
/-! laws.toMsg: function 77 -/
noncomputable def f_laws_toMsg (x0 : Int) (x1 : Int) (x2 : Bool) (x3 : List Int) : Option (Int × Int × Bool × List Int) :=
  (f_laws_toIntS x3).bind fun y16 =>
  some (x0, x1, x2, y16)
noncomputable def C77 : Con := ⟨[(.B, true, [(.int .i64), (.int .i64), .bool, (.sl R0)])], [(true, [(.int .i64), (.int .i64), .bool, (.sl R0)])], [(.int .i64), (.int .i64), .bool, (.sl R0)], [(.int .i64), (.int .i64), .bool, (.sl R0)], fun (p : Int × Int × Bool × List Int) => f_laws_toMsg p.1 p.2.1 p.2.2.1 p.2.2.2⟩
noncomputable abbrev K77 : Cons := [(17, C17)]
noncomputable abbrev L77 : List (Nat × Loops) := []
abbrev Q77 : List (Nat × List (Int × Nat) × Nat) := []
noncomputable abbrev X77 : Nat → Ctx := ctxOf tb K77 L77 Q77
theorem E77 : ∀ x, funRun fs X77 6 77 C77 x = C77.fn x := fun x => by kernel_rfl
theorem B77 : ConB Try.prog 77 C77 := ConB.make FS MIX TY (cons := K77) (L := L77) (ptrs := Q77) ⟨S17, trivial⟩ trivial trivial rfl rfl E77
theorem S77 : ConS Try.prog 77 C77 := B77.call rfl
/-! laws.toMsgS: function 144 -/
noncomputable def f_laws_toMsgS.l0 : Nat → (List (Int × Int × Bool × List Int)) → Int → (List (Int × Int × Bool × List Int)) → Option ((List (Int × Int × Bool × List Int)))
  | 0, _, _, _ => none
  | n + 1, p17, p18, p19 =>
    bif (decide (p18 < (p17.length : Int))) then
      bif ((decide ((0 : Int) ≤ p18)) && (decide (p18 < (p17.length : Int)))) then
      (f_laws_toMsg ((p17.getD p18.toNat (0, 0, false, [])).1) ((p17.getD p18.toNat (0, 0, false, [])).2.1) ((p17.getD p18.toNat (0, 0, false, [])).2.2.1) ((p17.getD p18.toNat (0, 0, false, [])).2.2.2)).bind fun y20 =>
      bif ((decide ((0 : Int) ≤ p18)) && (decide (p18 < (p19.length : Int)))) then
      (some ((p19.set p18.toNat (y20.1, y20.2.1, y20.2.2.1, y20.2.2.2)) : List (Int × Int × Bool × List Int))).bind fun z21 =>
      f_laws_toMsgS.l0 n p17 (IntKind.wrap .i64 (p18 + (1 : Int))) z21
      else none
      else none
    else
      some p19
noncomputable def f_laws_toMsgS (x0 : List (Int × Int × Bool × List Int)) : Option ((List (Int × Int × Bool × List Int))) :=
  bif (decide ((0 : Int) ≤ (x0.length : Int)) && Nat.ble (x0.length : Int).toNat 2932031007402) then
  (f_laws_toMsgS.l0 N x0 0 (List.replicate (x0.length : Int).toNat (0, 0, false, []))).bind fun r22 =>
  some r22
  else none
noncomputable def C144 : Con := ⟨[(.B, false, [(.sl R1)])], [(false, [(.sl R1)])], [(.sl R1)], [(.sl R1)], fun (p : (List (Int × Int × Bool × List Int))) => f_laws_toMsgS p⟩
noncomputable def f_laws_toMsgS.l0.c : LoopCon := ⟨1000, 6, [0, 2, 3, 4], ⟨[(0, .bor none R1 []), (2, .nil (some R1)), (3, .ref 1000 [] none), (4, .int .i64 0)], [(1000, .row R1 [])], 1001⟩, [(.sl R1), (.int .i64), (.sl R1)], [⟨.exit 0, [2, 3], ⟨[(2, .nil (some R1)), (3, .ref 1000 [] none)], [(1000, .row R1 [])], 1001⟩, [(.sl R1)]⟩], fun (p : (List (Int × Int × Bool × List Int)) × Int × (List (Int × Int × Bool × List Int))) => f_laws_toMsgS.l0 N p.1 p.2.1 p.2.2⟩
noncomputable abbrev K144 : Cons := [(77, C77)]
noncomputable abbrev L144 : List (Nat × Loops) := [(144, [(3, f_laws_toMsgS.l0.c)])]
abbrev Q144 : List (Nat × List (Int × Nat) × Nat) := []
noncomputable abbrev X144 : Nat → Ctx := ctxOf tb K144 L144 Q144
theorem f_laws_toMsgS.l0.ok : ∀ n p, (fun (p : (List (Int × Int × Bool × List Int)) × Int × (List (Int × Int × Bool × List Int))) => f_laws_toMsgS.l0 n p.1 p.2.1 p.2.2) p = iterD (roundOf fs X144 6 144 3 false f_laws_toMsgS.l0.c) n p :=
  iter_of (l := fun n => fun (p : (List (Int × Int × Bool × List Int)) × Int × (List (Int × Int × Bool × List Int))) => f_laws_toMsgS.l0 n p.1 p.2.1 p.2.2) (fun _ => rfl) (fun n p => by kernel_rfl)
theorem E144 : ∀ x, funRun fs X144 6 144 C144 x = C144.fn x := fun x => by kernel_rfl
theorem B144 : ConB Try.prog 144 C144 := ConB.make FS MIX TY (cons := K144) (L := L144) (ptrs := Q144) ⟨S77, trivial⟩ trivial ⟨⟨⟨N, fun p => f_laws_toMsgS.l0.ok N p⟩, trivial⟩, trivial⟩ rfl rfl E144
theorem S144 : ConS Try.prog 144 C144 := B144.call rfl
/-! laws.toSender: function 72 -/
noncomputable def f_laws_toSender (x0 : Int) (x1 : List (Int × Int × Bool × List Int)) : Option (Int × (List (Int × Int × Bool × List Int))) :=
  (f_laws_toMsgS x1).bind fun y23 =>
  some (x0, y23)
noncomputable def C72 : Con := ⟨[(.B, true, [(.int .i64), (.sl R1)])], [(true, [(.int .i64), (.sl R1)])], [(.int .i64), (.sl R1)], [(.int .i64), (.sl R1)], fun (p : Int × (List (Int × Int × Bool × List Int))) => f_laws_toSender p.1 p.2⟩
noncomputable abbrev K72 : Cons := [(144, C144)]
noncomputable abbrev L72 : List (Nat × Loops) := []
abbrev Q72 : List (Nat × List (Int × Nat) × Nat) := []
noncomputable abbrev X72 : Nat → Ctx := ctxOf tb K72 L72 Q72
theorem E72 : ∀ x, funRun fs X72 6 72 C72 x = C72.fn x := fun x => by kernel_rfl
theorem B72 : ConB Try.prog 72 C72 := ConB.make FS MIX TY (cons := K72) (L := L72) (ptrs := Q72) ⟨S144, trivial⟩ trivial trivial rfl rfl E72
theorem S72 : ConS Try.prog 72 C72 := B72.call rfl
/-! spec.l1Msg: function 140 -/
noncomputable def f_spec_l1Msg (x0 : Int) (x1 : Int) (x2 : Bool) (x3 : List Int) : Option (Int × Int × Bool × List Int) :=
  bif (Nat.blt (([] : List Int).length + x3.length) 17592186044416) then
  (some ((([] : List Int) ++ x3) : List Int)).bind fun z24 =>
  some (x0, x1, x2, z24)
  else none
noncomputable def C140 : Con := ⟨[(.B, true, [(.int .i64), (.int .i64), .bool, (.sl R0)])], [(true, [(.int .i64), (.int .i64), .bool, (.sl R0)])], [(.int .i64), (.int .i64), .bool, (.sl R0)], [(.int .i64), (.int .i64), .bool, (.sl R0)], fun (p : Int × Int × Bool × List Int) => f_spec_l1Msg p.1 p.2.1 p.2.2.1 p.2.2.2⟩
noncomputable abbrev K140 : Cons := []
noncomputable abbrev L140 : List (Nat × Loops) := []
abbrev Q140 : List (Nat × List (Int × Nat) × Nat) := []
noncomputable abbrev X140 : Nat → Ctx := ctxOf tb K140 L140 Q140
theorem E140 : ∀ x, funRun fs X140 6 140 C140 x = C140.fn x := fun x => by kernel_rfl
theorem B140 : ConB Try.prog 140 C140 := ConB.make FS MIX TY (cons := K140) (L := L140) (ptrs := Q140) trivial trivial trivial rfl rfl E140
theorem S140 : ConS Try.prog 140 C140 := B140.call rfl
/-! spec.l2Sender: function 139 -/
noncomputable def f_spec_l2Sender.l0 : Nat → Int → Int → (List (Int × Int × Bool × List Int)) → Int → Int → (List (Int × Int × Bool × List Int)) → (List (Int × Int × Bool × List Int)) → Option (Int × Int × (List (Int × Int × Bool × List Int)) × (List (Int × Int × Bool × List Int)))
  | 0, _, _, _, _, _, _, _ => none
  | n + 1, p25, p26, p27, p28, p29, p30, p31 =>
    bif (decide (p25 < (p27.length : Int))) then
      bif ((decide ((0 : Int) ≤ p25)) && (decide (p25 < (p27.length : Int)))) then
      (f_spec_l1Msg ((p27.getD p25.toNat (0, 0, false, [])).1) ((p27.getD p25.toNat (0, 0, false, [])).2.1) ((p27.getD p25.toNat (0, 0, false, [])).2.2.1) ((p27.getD p25.toNat (0, 0, false, [])).2.2.2)).bind fun y32 =>
      bif (Nat.blt (p31.length + ([(y32.1, y32.2.1, y32.2.2.1, y32.2.2.2)] : List (Int × Int × Bool × List Int)).length) 2932031007402) then
      (some ((p31 ++ ([(y32.1, y32.2.1, y32.2.2.1, y32.2.2.2)] : List (Int × Int × Bool × List Int))) : List (Int × Int × Bool × List Int))).bind fun z33 =>
      f_spec_l2Sender.l0 n (IntKind.wrap .i64 (p25 + (1 : Int))) p26 p27 p28 p29 p30 z33
      else none
      else none
    else
      some (p28, p29, p30, p31)
noncomputable def f_spec_l2Sender (x0 : Int) (x1 : List (Int × Int × Bool × List Int)) : Option (Int × (List (Int × Int × Bool × List Int))) :=
  (f_spec_l2Sender.l0 N 0 x0 x1 0 x0 ([] : List (Int × Int × Bool × List Int)) ([] : List (Int × Int × Bool × List Int))).bind fun r34 =>
  some (r34.2.1, r34.2.2.2)
noncomputable def C139 : Con := ⟨[(.B, true, [(.int .i64), (.sl R1)])], [(true, [(.int .i64), (.sl R1)])], [(.int .i64), (.sl R1)], [(.int .i64), (.sl R1)], fun (p : Int × (List (Int × Int × Bool × List Int))) => f_spec_l2Sender p.1 p.2⟩
noncomputable def f_spec_l2Sender.l0.c : LoopCon := ⟨1000, 6, [1, 2, 3, 4], ⟨[(1, .ptr 1000 0), (2, .ptr 1001 0), (3, .ptr 1002 0), (4, .int .i64 0)], [(1000, .box [.int .i64 0, .bor none R1 []]), (1001, .box [.int .i64 0, .ref 1003 [] none]), (1002, .box [.int .i64 0, .ref 1004 [] none]), (1003, .row R1 []), (1004, .row R1 [])], 1005⟩, [(.int .i64), (.int .i64), (.sl R1), (.int .i64), (.int .i64), (.sl R1), (.sl R1)], [⟨.exit 0, [2, 3], ⟨[(2, .ptr 1000 0), (3, .ptr 1001 0)], [(1000, .box [.int .i64 0, .ref 1002 [] none]), (1001, .box [.int .i64 0, .ref 1003 [] none]), (1002, .row R1 []), (1003, .row R1 [])], 1004⟩, [(.int .i64), (.int .i64), (.sl R1), (.sl R1)]⟩], fun (p : Int × Int × (List (Int × Int × Bool × List Int)) × Int × Int × (List (Int × Int × Bool × List Int)) × (List (Int × Int × Bool × List Int))) => f_spec_l2Sender.l0 N p.1 p.2.1 p.2.2.1 p.2.2.2.1 p.2.2.2.2.1 p.2.2.2.2.2.1 p.2.2.2.2.2.2⟩
noncomputable abbrev K139 : Cons := [(140, C140)]
noncomputable abbrev L139 : List (Nat × Loops) := [(139, [(3, f_spec_l2Sender.l0.c)])]
abbrev Q139 : List (Nat × List (Int × Nat) × Nat) := []
noncomputable abbrev X139 : Nat → Ctx := ctxOf tb K139 L139 Q139
theorem f_spec_l2Sender.l0.ok : ∀ n p, (fun (p : Int × Int × (List (Int × Int × Bool × List Int)) × Int × Int × (List (Int × Int × Bool × List Int)) × (List (Int × Int × Bool × List Int))) => f_spec_l2Sender.l0 n p.1 p.2.1 p.2.2.1 p.2.2.2.1 p.2.2.2.2.1 p.2.2.2.2.2.1 p.2.2.2.2.2.2) p = iterD (roundOf fs X139 6 139 3 false f_spec_l2Sender.l0.c) n p :=
  iter_of (l := fun n => fun (p : Int × Int × (List (Int × Int × Bool × List Int)) × Int × Int × (List (Int × Int × Bool × List Int)) × (List (Int × Int × Bool × List Int))) => f_spec_l2Sender.l0 n p.1 p.2.1 p.2.2.1 p.2.2.2.1 p.2.2.2.2.1 p.2.2.2.2.2.1 p.2.2.2.2.2.2) (fun _ => rfl) (fun n p => by kernel_rfl)
theorem E139 : ∀ x, funRun fs X139 6 139 C139 x = C139.fn x := fun x => by kernel_rfl
theorem B139 : ConB Try.prog 139 C139 := ConB.make FS MIX TY (cons := K139) (L := L139) (ptrs := Q139) ⟨S140, trivial⟩ trivial ⟨⟨⟨N, fun p => f_spec_l2Sender.l0.ok N p⟩, trivial⟩, trivial⟩ rfl rfl E139
theorem S139 : ConS Try.prog 139 C139 := B139.call rfl
/-! spec.l1In: function 97 -/
noncomputable def f_spec_l1In (x0 : Int) (x1 : Int) (x2 : Int) : Option (Bool) :=
  bif (decide (x1 ≤ x0)) then
    some (decide (x0 ≤ x2))
  else
    some false
noncomputable def C97 : Con := ⟨[(.B, false, [(.int .i64)]), (.B, false, [(.int .i64)]), (.B, false, [(.int .i64)])], [(false, [.bool])], [(.int .i64), (.int .i64), (.int .i64)], [.bool], fun (p : Int × Int × Int) => f_spec_l1In p.1 p.2.1 p.2.2⟩
noncomputable abbrev K97 : Cons := []
noncomputable abbrev L97 : List (Nat × Loops) := []
abbrev Q97 : List (Nat × List (Int × Nat) × Nat) := []
noncomputable abbrev X97 : Nat → Ctx := ctxOf tb K97 L97 Q97
theorem E97 : ∀ x, funRun fs X97 6 97 C97 x = C97.fn x := fun x => by kernel_rfl
theorem B97 : ConB Try.prog 97 C97 := ConB.make FS MIX TY (cons := K97) (L := L97) (ptrs := Q97) trivial trivial trivial rfl rfl E97
theorem S97 : ConS Try.prog 97 C97 := B97.call rfl
/-! spec.l1Words: function 126 -/
noncomputable def f_spec_l1Words.l0 : Nat → (List Int) → Int → Bool → Int → Option ((Bool) ⊕ (List Int × Int × Bool))
  | 0, _, _, _, _ => none
  | n + 1, p35, p36, p37, p38 =>
    bif (decide (p38 < (p35.length : Int))) then
      bif ((decide ((0 : Int) ≤ p38)) && (decide (p38 < (p35.length : Int)))) then
      (f_spec_l1In (p35.getD p38.toNat 0) 0 65535).bind fun y39 =>
      bif (!y39) then
        some (.inl false)
      else
        f_spec_l1Words.l0 n p35 p36 p37 (IntKind.wrap .i64 (p38 + (1 : Int)))
      else none
    else
      some (.inr (p35, p36, p37))
noncomputable def f_spec_l1Words (x0 : List Int) (x1 : Int) : Option (Bool) :=
  (f_spec_l1Words.l0 N x0 x1 false 0).bind fun r40 =>
  cs r40 (fun a41 =>
    some a41) (fun b42 =>
    some (decide ((b42.1.length : Int) = b42.2.1)))
noncomputable def C126 : Con := ⟨[(.B, false, [(.sl R0)]), (.B, false, [(.int .i64)])], [(false, [.bool])], [(.sl R0), (.int .i64)], [.bool], fun (p : List Int × Int) => f_spec_l1Words p.1 p.2⟩
noncomputable def f_spec_l1Words.l0.c : LoopCon := ⟨1000, 6, [0, 1, 4, 5], ⟨[(0, .bor none R0 []), (1, .int .i64 0), (4, .bool false), (5, .int .i64 0)], [], 1000⟩, [(.sl R0), (.int .i64), .bool, (.int .i64)], [⟨.ret, [4], ⟨[(4, .bool false)], [], 1000⟩, [.bool]⟩, ⟨.exit 0, [0, 1, 4], ⟨[(0, .bor none R0 []), (1, .int .i64 0), (4, .bool false)], [], 1000⟩, [(.sl R0), (.int .i64), .bool]⟩], fun (p : List Int × Int × Bool × Int) => f_spec_l1Words.l0 N p.1 p.2.1 p.2.2.1 p.2.2.2⟩
noncomputable abbrev K126 : Cons := [(97, C97)]
noncomputable abbrev L126 : List (Nat × Loops) := [(126, [(2, f_spec_l1Words.l0.c)])]
abbrev Q126 : List (Nat × List (Int × Nat) × Nat) := []
noncomputable abbrev X126 : Nat → Ctx := ctxOf tb K126 L126 Q126
theorem f_spec_l1Words.l0.ok : ∀ n p, (fun (p : List Int × Int × Bool × Int) => f_spec_l1Words.l0 n p.1 p.2.1 p.2.2.1 p.2.2.2) p = iterD (roundOf fs X126 6 126 2 false f_spec_l1Words.l0.c) n p :=
  iter_of (l := fun n => fun (p : List Int × Int × Bool × Int) => f_spec_l1Words.l0 n p.1 p.2.1 p.2.2.1 p.2.2.2) (fun _ => rfl) (fun n p => by kernel_rfl)
theorem E126 : ∀ x, funRun fs X126 6 126 C126 x = C126.fn x := fun x => by kernel_rfl
theorem B126 : ConB Try.prog 126 C126 := ConB.make FS MIX TY (cons := K126) (L := L126) (ptrs := Q126) ⟨S97, trivial⟩ trivial ⟨⟨⟨N, fun p => f_spec_l1Words.l0.ok N p⟩, trivial⟩, trivial⟩ rfl rfl E126
theorem S126 : ConS Try.prog 126 C126 := B126.call rfl
/-! spec.MsgOk: function 45 -/
noncomputable def f_spec_MsgOk (x0 : Int) (x1 : Int) (x2 : Bool) (x3 : List Int) : Option (Bool) :=
  bif (decide (x0 = (3 : Int))) then
    bif (decide (x0 = (3 : Int))) then
      (f_spec_l1In x0 1 7).bind fun y43 =>
      bif y43 then
        (f_spec_l1In x1 0 5).bind fun y44 =>
        bif y44 then
          (f_spec_l1Words x3 4).bind fun y45 =>
          some y45
        else
          some false
      else
        some false
    else
      (f_spec_l1In x0 1 7).bind fun y46 =>
      bif y46 then
        (f_spec_l1In x1 0 5).bind fun y47 =>
        bif y47 then
          bif (decide (x0 = (6 : Int))) then
            (f_spec_l1Words x3 4).bind fun y48 =>
            some y48
          else
            bif (!x2) then
              (f_spec_l1Words x3 4).bind fun y49 =>
              some y49
            else
              some false
        else
          some false
      else
        some false
  else
    bif (decide (x0 = (7 : Int))) then
      bif (decide (x0 = (3 : Int))) then
        (f_spec_l1In x0 1 7).bind fun y50 =>
        bif y50 then
          (f_spec_l1In x1 0 5).bind fun y51 =>
          bif y51 then
            (f_spec_l1Words x3 4).bind fun y52 =>
            some y52
          else
            some false
        else
          some false
      else
        (f_spec_l1In x0 1 7).bind fun y53 =>
        bif y53 then
          (f_spec_l1In x1 0 5).bind fun y54 =>
          bif y54 then
            bif (decide (x0 = (6 : Int))) then
              (f_spec_l1Words x3 4).bind fun y55 =>
              some y55
            else
              bif (!x2) then
                (f_spec_l1Words x3 4).bind fun y56 =>
                some y56
              else
                some false
          else
            some false
        else
          some false
    else
      bif (decide (x0 = (3 : Int))) then
        (f_spec_l1In x0 1 7).bind fun y57 =>
        bif y57 then
          (f_spec_l1In x1 0 5).bind fun y58 =>
          bif y58 then
            (f_spec_l1Words x3 0).bind fun y59 =>
            some y59
          else
            some false
        else
          some false
      else
        (f_spec_l1In x0 1 7).bind fun y60 =>
        bif y60 then
          (f_spec_l1In x1 0 5).bind fun y61 =>
          bif y61 then
            bif (decide (x0 = (6 : Int))) then
              (f_spec_l1Words x3 0).bind fun y62 =>
              some y62
            else
              bif (!x2) then
                (f_spec_l1Words x3 0).bind fun y63 =>
                some y63
              else
                some false
          else
            some false
        else
          some false
noncomputable def C45 : Con := ⟨[(.B, true, [(.int .i64), (.int .i64), .bool, (.sl R0)])], [(false, [.bool])], [(.int .i64), (.int .i64), .bool, (.sl R0)], [.bool], fun (p : Int × Int × Bool × List Int) => f_spec_MsgOk p.1 p.2.1 p.2.2.1 p.2.2.2⟩
noncomputable abbrev K45 : Cons := [(97, C97), (126, C126)]
noncomputable abbrev L45 : List (Nat × Loops) := []
abbrev Q45 : List (Nat × List (Int × Nat) × Nat) := []
noncomputable abbrev X45 : Nat → Ctx := ctxOf tb K45 L45 Q45
theorem E45 : ∀ x, funRun fs X45 6 45 C45 x = C45.fn x := fun x => by kernel_rfl
theorem B45 : ConB Try.prog 45 C45 := ConB.make FS MIX TY (cons := K45) (L := L45) (ptrs := Q45) ⟨S97, S126, trivial⟩ trivial trivial rfl rfl E45
theorem S45 : ConS Try.prog 45 C45 := B45.call rfl
/-! spec.SenderOk: function 33 -/
noncomputable def f_spec_SenderOk.l0 : Nat → Bool → Int → Int → (List (Int × Int × Bool × List Int)) → Option ((Bool) ⊕ (Bool × Int × (List (Int × Int × Bool × List Int))))
  | 0, _, _, _, _ => none
  | n + 1, p64, p65, p66, p67 =>
    bif (decide (p65 < (p67.length : Int))) then
      bif ((decide ((0 : Int) ≤ p65)) && (decide (p65 < (p67.length : Int)))) then
      (f_spec_MsgOk ((p67.getD p65.toNat (0, 0, false, [])).1) ((p67.getD p65.toNat (0, 0, false, [])).2.1) ((p67.getD p65.toNat (0, 0, false, [])).2.2.1) ((p67.getD p65.toNat (0, 0, false, [])).2.2.2)).bind fun y68 =>
      bif (!y68) then
        some (.inl false)
      else
        f_spec_SenderOk.l0 n p64 (IntKind.wrap .i64 (p65 + (1 : Int))) p66 p67
      else none
    else
      some (.inr (p64, p66, p67))
noncomputable def f_spec_SenderOk (x0 : Int) (x1 : List (Int × Int × Bool × List Int)) : Option (Bool) :=
  (f_spec_SenderOk.l0 N false 0 x0 x1).bind fun r69 =>
  cs r69 (fun a70 =>
    some a70) (fun b71 =>
    (f_spec_l1In b71.2.1 0 100000).bind fun y72 =>
    bif y72 then
      bif (decide ((b71.2.2.length : Int) ≤ (30 : Int))) then
        some (decide ((IntKind.wrap .i64 (b71.2.1 + (b71.2.2.length : Int))) ≤ (100000 : Int)))
      else
        some false
    else
      some false)
noncomputable def C33 : Con := ⟨[(.B, true, [(.int .i64), (.sl R1)])], [(false, [.bool])], [(.int .i64), (.sl R1)], [.bool], fun (p : Int × (List (Int × Int × Bool × List Int))) => f_spec_SenderOk p.1 p.2⟩
noncomputable def f_spec_SenderOk.l0.c : LoopCon := ⟨1000, 6, [1, 2, 3], ⟨[(1, .ptr 1000 0), (2, .bool false), (3, .int .i64 0)], [(1000, .box [.int .i64 0, .bor none R1 []])], 1001⟩, [.bool, (.int .i64), (.int .i64), (.sl R1)], [⟨.ret, [2], ⟨[(2, .bool false)], [], 1000⟩, [.bool]⟩, ⟨.exit 0, [1, 2], ⟨[(1, .ptr 1000 0), (2, .bool false)], [(1000, .box [.int .i64 0, .bor none R1 []])], 1001⟩, [.bool, (.int .i64), (.sl R1)]⟩], fun (p : Bool × Int × Int × (List (Int × Int × Bool × List Int))) => f_spec_SenderOk.l0 N p.1 p.2.1 p.2.2.1 p.2.2.2⟩
noncomputable abbrev K33 : Cons := [(45, C45), (97, C97)]
noncomputable abbrev L33 : List (Nat × Loops) := [(33, [(2, f_spec_SenderOk.l0.c)])]
abbrev Q33 : List (Nat × List (Int × Nat) × Nat) := []
noncomputable abbrev X33 : Nat → Ctx := ctxOf tb K33 L33 Q33
theorem f_spec_SenderOk.l0.ok : ∀ n p, (fun (p : Bool × Int × Int × (List (Int × Int × Bool × List Int))) => f_spec_SenderOk.l0 n p.1 p.2.1 p.2.2.1 p.2.2.2) p = iterD (roundOf fs X33 6 33 2 false f_spec_SenderOk.l0.c) n p :=
  iter_of (l := fun n => fun (p : Bool × Int × Int × (List (Int × Int × Bool × List Int))) => f_spec_SenderOk.l0 n p.1 p.2.1 p.2.2.1 p.2.2.2) (fun _ => rfl) (fun n p => by kernel_rfl)
theorem E33 : ∀ x, funRun fs X33 6 33 C33 x = C33.fn x := fun x => by kernel_rfl
theorem B33 : ConB Try.prog 33 C33 := ConB.make FS MIX TY (cons := K33) (L := L33) (ptrs := Q33) ⟨S45, S97, trivial⟩ trivial ⟨⟨⟨N, fun p => f_spec_SenderOk.l0.ok N p⟩, trivial⟩, trivial⟩ rfl rfl E33
theorem S33 : ConS Try.prog 33 C33 := B33.call rfl
/-! spec.Queue: function 66 -/
noncomputable def f_spec_Queue (x0 : Int) (x1 : List (Int × Int × Bool × List Int)) (x2 : Int) (x3 : Int) (x4 : Bool) (x5 : List Int) : Option (Int × (List (Int × Int × Bool × List Int)) × Bool) :=
  (f_spec_l2Sender x0 x1).bind fun y73 =>
  (f_spec_SenderOk x0 x1).bind fun y74 =>
  bif (!y74) then
    some (y73.1, y73.2, false)
  else
    (f_spec_MsgOk x2 x3 x4 x5).bind fun y75 =>
    bif (!y75) then
      some (y73.1, y73.2, false)
    else
      bif (decide ((x1.length : Int) = (30 : Int))) then
        some (y73.1, y73.2, false)
      else
        bif (decide ((IntKind.wrap .i64 (x0 + (x1.length : Int))) = (100000 : Int))) then
          some (y73.1, y73.2, false)
        else
          (f_spec_l1Msg x2 x3 x4 x5).bind fun y76 =>
          bif (Nat.blt (y73.2.length + ([(y76.1, y76.2.1, y76.2.2.1, y76.2.2.2)] : List (Int × Int × Bool × List Int)).length) 2932031007402) then
          (some ((y73.2 ++ ([(y76.1, y76.2.1, y76.2.2.1, y76.2.2.2)] : List (Int × Int × Bool × List Int))) : List (Int × Int × Bool × List Int))).bind fun z77 =>
          some (y73.1, z77, true)
          else none
noncomputable def C66 : Con := ⟨[(.B, true, [(.int .i64), (.sl R1)]), (.B, true, [(.int .i64), (.int .i64), .bool, (.sl R0)])], [(true, [(.int .i64), (.sl R1)]), (false, [.bool])], [(.int .i64), (.sl R1), (.int .i64), (.int .i64), .bool, (.sl R0)], [(.int .i64), (.sl R1), .bool], fun (p : Int × (List (Int × Int × Bool × List Int)) × Int × Int × Bool × List Int) => f_spec_Queue p.1 p.2.1 p.2.2.1 p.2.2.2.1 p.2.2.2.2.1 p.2.2.2.2.2⟩
noncomputable abbrev K66 : Cons := [(33, C33), (45, C45), (139, C139), (140, C140)]
noncomputable abbrev L66 : List (Nat × Loops) := []
abbrev Q66 : List (Nat × List (Int × Nat) × Nat) := []
noncomputable abbrev X66 : Nat → Ctx := ctxOf tb K66 L66 Q66
theorem E66 : ∀ x, funRun fs X66 6 66 C66 x = C66.fn x := fun x => by kernel_rfl
theorem B66 : ConB Try.prog 66 C66 := ConB.make FS MIX TY (cons := K66) (L := L66) (ptrs := Q66) ⟨S33, S45, S139, S140, trivial⟩ trivial trivial rfl rfl E66
theorem S66 : ConS Try.prog 66 C66 := B66.call rfl
/-! slices.Clone[[]int,int]: function 100 -/
noncomputable def f_slices_Clone_int_int (x0 : List Int) : Option (List Int) := bif Nat.blt (0 + x0.length) 17592186044416 then some x0 else none
noncomputable def C100 : Con := ⟨[(.B, false, [(.sl R0)])], [(false, [(.sl R0)])], [(.sl R0)], [(.sl R0)], f_slices_Clone_int_int⟩
noncomputable abbrev X100 : Nat → Ctx := ctxOf tb [] [] []
theorem E100 : ∀ x : List R0.den, bodyRun fs X100 6 100 C100 [] [] [.bor (some 1000) R0 x] [] = f_slices_Clone_int_int x := fun x => by kernel_rfl
theorem Z100 : bodyRun fs X100 6 100 C100 [] [] [.nil (some R0)] [] = f_slices_Clone_int_int ([] : List R0.den) := by kernel_rfl
theorem B100 : ConB Try.prog 100 C100 := ConB.copy FS MIX TY (cons := []) (L := []) (ptrs := []) trivial trivial trivial rfl E100 Z100
theorem S100 : ConS Try.prog 100 C100 := B100.call rfl
/-! impl.copyMsg: function 138 -/
noncomputable def f_impl_copyMsg (x0 : Int) (x1 : Int) (x2 : Bool) (x3 : List Int) : Option (Int × Int × Bool × List Int) :=
  (f_slices_Clone_int_int x3).bind fun y78 =>
  some (x0, x1, x2, y78)
noncomputable def C138 : Con := ⟨[(.B, true, [(.int .i64), (.int .i64), .bool, (.sl R0)])], [(true, [(.int .i64), (.int .i64), .bool, (.sl R0)])], [(.int .i64), (.int .i64), .bool, (.sl R0)], [(.int .i64), (.int .i64), .bool, (.sl R0)], fun (p : Int × Int × Bool × List Int) => f_impl_copyMsg p.1 p.2.1 p.2.2.1 p.2.2.2⟩
noncomputable abbrev K138 : Cons := [(100, C100)]
noncomputable abbrev L138 : List (Nat × Loops) := []
abbrev Q138 : List (Nat × List (Int × Nat) × Nat) := []
noncomputable abbrev X138 : Nat → Ctx := ctxOf tb K138 L138 Q138
theorem E138 : ∀ x, funRun fs X138 6 138 C138 x = C138.fn x := fun x => by kernel_rfl
theorem B138 : ConB Try.prog 138 C138 := ConB.make FS MIX TY (cons := K138) (L := L138) (ptrs := Q138) ⟨S100, trivial⟩ trivial trivial rfl rfl E138
theorem S138 : ConS Try.prog 138 C138 := B138.call rfl
/-! impl.copySender: function 111 -/
noncomputable def f_impl_copySender.l0 : Nat → (List (Int × Int × Bool × List Int)) → Int → Int → Int → Int → (List (Int × Int × Bool × List Int)) → (List (Int × Int × Bool × List Int)) → Option (Int × Int × (List (Int × Int × Bool × List Int)) × (List (Int × Int × Bool × List Int)))
  | 0, _, _, _, _, _, _, _ => none
  | n + 1, p79, p80, p81, p82, p83, p84, p85 =>
    bif (decide (p81 < p80)) then
      bif ((decide ((0 : Int) ≤ p81)) && (decide (p81 < (p79.length : Int)))) then
      (f_impl_copyMsg ((p79.getD p81.toNat (0, 0, false, [])).1) ((p79.getD p81.toNat (0, 0, false, [])).2.1) ((p79.getD p81.toNat (0, 0, false, [])).2.2.1) ((p79.getD p81.toNat (0, 0, false, [])).2.2.2)).bind fun y86 =>
      bif (Nat.blt (p85.length + ([(y86.1, y86.2.1, y86.2.2.1, y86.2.2.2)] : List (Int × Int × Bool × List Int)).length) 2932031007402) then
      (some ((p85 ++ ([(y86.1, y86.2.1, y86.2.2.1, y86.2.2.2)] : List (Int × Int × Bool × List Int))) : List (Int × Int × Bool × List Int))).bind fun z87 =>
      f_impl_copySender.l0 n p79 p80 (IntKind.wrap .i64 (p81 + (1 : Int))) p82 p83 p84 z87
      else none
      else none
    else
      some (p82, p83, p84, p85)
noncomputable def f_impl_copySender (x0 : Int) (x1 : List (Int × Int × Bool × List Int)) : Option (Int × (List (Int × Int × Bool × List Int))) :=
  (f_impl_copySender.l0 N x1 (x1.length : Int) 0 0 x0 ([] : List (Int × Int × Bool × List Int)) ([] : List (Int × Int × Bool × List Int))).bind fun r88 =>
  some (r88.2.1, r88.2.2.2)
noncomputable def C111 : Con := ⟨[(.B, true, [(.int .i64), (.sl R1)])], [(true, [(.int .i64), (.sl R1)])], [(.int .i64), (.sl R1)], [(.int .i64), (.sl R1)], fun (p : Int × (List (Int × Int × Bool × List Int))) => f_impl_copySender p.1 p.2⟩
noncomputable def f_impl_copySender.l0.c : LoopCon := ⟨1000, 6, [2, 3, 10, 11, 12], ⟨[(2, .ptr 1000 0), (3, .ptr 1001 0), (10, .bor none R1 []), (11, .int .i64 0), (12, .int .i64 0)], [(1000, .box [.int .i64 0, .ref 1002 [] none]), (1001, .box [.int .i64 0, .ref 1003 [] none]), (1002, .row R1 []), (1003, .row R1 [])], 1004⟩, [(.sl R1), (.int .i64), (.int .i64), (.int .i64), (.int .i64), (.sl R1), (.sl R1)], [⟨.exit 0, [2, 3], ⟨[(2, .ptr 1000 0), (3, .ptr 1001 0)], [(1000, .box [.int .i64 0, .ref 1002 [] none]), (1001, .box [.int .i64 0, .ref 1003 [] none]), (1002, .row R1 []), (1003, .row R1 [])], 1004⟩, [(.int .i64), (.int .i64), (.sl R1), (.sl R1)]⟩], fun (p : (List (Int × Int × Bool × List Int)) × Int × Int × Int × Int × (List (Int × Int × Bool × List Int)) × (List (Int × Int × Bool × List Int))) => f_impl_copySender.l0 N p.1 p.2.1 p.2.2.1 p.2.2.2.1 p.2.2.2.2.1 p.2.2.2.2.2.1 p.2.2.2.2.2.2⟩
noncomputable abbrev K111 : Cons := [(138, C138)]
noncomputable abbrev L111 : List (Nat × Loops) := [(111, [(3, f_impl_copySender.l0.c)])]
abbrev Q111 : List (Nat × List (Int × Nat) × Nat) := []
noncomputable abbrev X111 : Nat → Ctx := ctxOf tb K111 L111 Q111
theorem f_impl_copySender.l0.ok : ∀ n p, (fun (p : (List (Int × Int × Bool × List Int)) × Int × Int × Int × Int × (List (Int × Int × Bool × List Int)) × (List (Int × Int × Bool × List Int))) => f_impl_copySender.l0 n p.1 p.2.1 p.2.2.1 p.2.2.2.1 p.2.2.2.2.1 p.2.2.2.2.2.1 p.2.2.2.2.2.2) p = iterD (roundOf fs X111 6 111 3 false f_impl_copySender.l0.c) n p :=
  iter_of (l := fun n => fun (p : (List (Int × Int × Bool × List Int)) × Int × Int × Int × Int × (List (Int × Int × Bool × List Int)) × (List (Int × Int × Bool × List Int))) => f_impl_copySender.l0 n p.1 p.2.1 p.2.2.1 p.2.2.2.1 p.2.2.2.2.1 p.2.2.2.2.2.1 p.2.2.2.2.2.2) (fun _ => rfl) (fun n p => by kernel_rfl)
theorem E111 : ∀ x, funRun fs X111 6 111 C111 x = C111.fn x := fun x => by kernel_rfl
theorem B111 : ConB Try.prog 111 C111 := ConB.make FS MIX TY (cons := K111) (L := L111) (ptrs := Q111) ⟨S138, trivial⟩ trivial ⟨⟨⟨N, fun p => f_impl_copySender.l0.ok N p⟩, trivial⟩, trivial⟩ rfl rfl E111
theorem S111 : ConS Try.prog 111 C111 := B111.call rfl
/-! impl.from: function 103 -/
noncomputable def f_impl_from (x0 : Int) (x1 : Int) (x2 : Int) : Option (Bool) :=
  bif (decide (x1 ≤ x0)) then
    some (decide (x0 ≤ x2))
  else
    some false
noncomputable def C103 : Con := ⟨[(.B, false, [(.int .i64)]), (.B, false, [(.int .i64)]), (.B, false, [(.int .i64)])], [(false, [.bool])], [(.int .i64), (.int .i64), (.int .i64)], [.bool], fun (p : Int × Int × Int) => f_impl_from p.1 p.2.1 p.2.2⟩
noncomputable abbrev K103 : Cons := []
noncomputable abbrev L103 : List (Nat × Loops) := []
abbrev Q103 : List (Nat × List (Int × Nat) × Nat) := []
noncomputable abbrev X103 : Nat → Ctx := ctxOf tb K103 L103 Q103
theorem E103 : ∀ x, funRun fs X103 6 103 C103 x = C103.fn x := fun x => by kernel_rfl
theorem B103 : ConB Try.prog 103 C103 := ConB.make FS MIX TY (cons := K103) (L := L103) (ptrs := Q103) trivial trivial trivial rfl rfl E103
theorem S103 : ConS Try.prog 103 C103 := B103.call rfl
/-! impl.isSeq: function 112 -/
noncomputable def f_impl_isSeq (x0 : Int) : Option (Bool) :=
  (f_impl_from x0 0 100000).bind fun y89 =>
  some y89
noncomputable def C112 : Con := ⟨[(.B, false, [(.int .i64)])], [(false, [.bool])], [(.int .i64)], [.bool], fun (p : Int) => f_impl_isSeq p⟩
noncomputable abbrev K112 : Cons := [(103, C103)]
noncomputable abbrev L112 : List (Nat × Loops) := []
abbrev Q112 : List (Nat × List (Int × Nat) × Nat) := []
noncomputable abbrev X112 : Nat → Ctx := ctxOf tb K112 L112 Q112
theorem E112 : ∀ x, funRun fs X112 6 112 C112 x = C112.fn x := fun x => by kernel_rfl
theorem B112 : ConB Try.prog 112 C112 := ConB.make FS MIX TY (cons := K112) (L := L112) (ptrs := Q112) ⟨S103, trivial⟩ trivial trivial rfl rfl E112
theorem S112 : ConS Try.prog 112 C112 := B112.call rfl
/-! impl.isPage: function 119 -/
noncomputable def f_impl_isPage (x0 : Int) : Option (Bool) :=
  (f_impl_from x0 0 5).bind fun y90 =>
  some y90
noncomputable def C119 : Con := ⟨[(.B, false, [(.int .i64)])], [(false, [.bool])], [(.int .i64)], [.bool], fun (p : Int) => f_impl_isPage p⟩
noncomputable abbrev K119 : Cons := [(103, C103)]
noncomputable abbrev L119 : List (Nat × Loops) := []
abbrev Q119 : List (Nat × List (Int × Nat) × Nat) := []
noncomputable abbrev X119 : Nat → Ctx := ctxOf tb K119 L119 Q119
theorem E119 : ∀ x, funRun fs X119 6 119 C119 x = C119.fn x := fun x => by kernel_rfl
theorem B119 : ConB Try.prog 119 C119 := ConB.make FS MIX TY (cons := K119) (L := L119) (ptrs := Q119) ⟨S103, trivial⟩ trivial trivial rfl rfl E119
theorem S119 : ConS Try.prog 119 C119 := B119.call rfl
/-! impl.isWord: function 137 -/
noncomputable def f_impl_isWord (x0 : Int) : Option (Bool) :=
  (f_impl_from x0 0 65535).bind fun y91 =>
  some y91
noncomputable def C137 : Con := ⟨[(.B, false, [(.int .i64)])], [(false, [.bool])], [(.int .i64)], [.bool], fun (p : Int) => f_impl_isWord p⟩
noncomputable abbrev K137 : Cons := [(103, C103)]
noncomputable abbrev L137 : List (Nat × Loops) := []
abbrev Q137 : List (Nat × List (Int × Nat) × Nat) := []
noncomputable abbrev X137 : Nat → Ctx := ctxOf tb K137 L137 Q137
theorem E137 : ∀ x, funRun fs X137 6 137 C137 x = C137.fn x := fun x => by kernel_rfl
theorem B137 : ConB Try.prog 137 C137 := ConB.make FS MIX TY (cons := K137) (L := L137) (ptrs := Q137) ⟨S103, trivial⟩ trivial trivial rfl rfl E137
theorem S137 : ConS Try.prog 137 C137 := B137.call rfl
/-! impl.wordsOk$1: function 180 -/
noncomputable def f_impl_wordsOk_1 (x0 : Int) : Option (Bool) :=
  (f_impl_isWord x0).bind fun y92 =>
  some (!y92)
noncomputable def C180 : Con := ⟨[(.B, false, [(.int .i64)])], [(false, [.bool])], [(.int .i64)], [.bool], fun (p : Int) => f_impl_wordsOk_1 p⟩
noncomputable abbrev K180 : Cons := [(137, C137)]
noncomputable abbrev L180 : List (Nat × Loops) := []
abbrev Q180 : List (Nat × List (Int × Nat) × Nat) := []
noncomputable abbrev X180 : Nat → Ctx := ctxOf tb K180 L180 Q180
theorem E180 : ∀ x, funRun fs X180 6 180 C180 x = C180.fn x := fun x => by kernel_rfl
theorem B180 : ConB Try.prog 180 C180 := ConB.make FS MIX TY (cons := K180) (L := L180) (ptrs := Q180) ⟨S137, trivial⟩ trivial trivial rfl rfl E180
theorem S180 : ConS Try.prog 180 C180 := B180.call rfl
/-! impl.wordsOk: function 120 -/
noncomputable def f_impl_wordsOk.l0 : Nat → (List Int) → Int → Int → Int → Option ((Int) ⊕ (Int))
  | 0, _, _, _, _ => none
  | n + 1, p93, p94, p95, p96 =>
    bif (decide (p96 < p95)) then
      bif ((decide ((0 : Int) ≤ p96)) && (decide (p96 < (p93.length : Int)))) then
      (f_impl_wordsOk_1 (p93.getD p96.toNat 0)).bind fun y97 =>
      bif y97 then
        some (.inl p96)
      else
        f_impl_wordsOk.l0 n p93 p94 p95 (IntKind.wrap .i64 (p96 + (1 : Int)))
      else none
    else
      some (.inr p94)
noncomputable def f_impl_wordsOk (x0 : List Int) (x1 : Int) : Option (Bool) :=
  bif (decide ((x0.length : Int) = x1)) then
    (f_impl_wordsOk.l0 N x0 0 (x0.length : Int) 0).bind fun r98 =>
    cs r98 (fun a99 =>
      some (!(decide ((0 : Int) ≤ a99)))) (fun b100 =>
      some true)
  else
    some false
noncomputable def C120 : Con := ⟨[(.B, false, [(.sl R0)]), (.B, false, [(.int .i64)])], [(false, [.bool])], [(.sl R0), (.int .i64)], [.bool], fun (p : List Int × Int) => f_impl_wordsOk p.1 p.2⟩
noncomputable def f_impl_wordsOk.l0.c : LoopCon := ⟨1274, 4, [0, 1, 4, 7, 8], ⟨[(0, .bor none R0 []), (1, .func 180 []), (4, .int .i64 0), (7, .int .i64 0), (8, .int .i64 0)], [], 1274⟩, [(.sl R0), (.int .i64), (.int .i64), (.int .i64)], [⟨.ret, [4], ⟨[(4, .int .i64 0)], [], 1274⟩, [(.int .i64)]⟩, ⟨.exit 0, [4], ⟨[(4, .int .i64 0)], [], 1274⟩, [(.int .i64)]⟩], fun (p : List Int × Int × Int × Int) => f_impl_wordsOk.l0 N p.1 p.2.1 p.2.2.1 p.2.2.2⟩
noncomputable abbrev K120 : Cons := [(180, C180)]
noncomputable abbrev L120 : List (Nat × Loops) := [(207, [(2, f_impl_wordsOk.l0.c)])]
abbrev Q120 : List (Nat × List (Int × Nat) × Nat) := []
noncomputable abbrev X120 : Nat → Ctx := ctxOf tb K120 L120 Q120
theorem f_impl_wordsOk.l0.ok : ∀ n p, (fun (p : List Int × Int × Int × Int) => f_impl_wordsOk.l0 n p.1 p.2.1 p.2.2.1 p.2.2.2) p = iterD (roundOf fs X120 4 207 2 true f_impl_wordsOk.l0.c) n p :=
  iter_of (l := fun n => fun (p : List Int × Int × Int × Int) => f_impl_wordsOk.l0 n p.1 p.2.1 p.2.2.1 p.2.2.2) (fun _ => rfl) (fun n p => by kernel_rfl)
theorem E120 : ∀ x, funRun fs X120 6 120 C120 x = C120.fn x := fun x => by kernel_rfl
theorem B120 : ConB Try.prog 120 C120 := ConB.make FS MIX TY (cons := K120) (L := L120) (ptrs := Q120) ⟨S180, trivial⟩ trivial ⟨⟨⟨N, fun p => f_impl_wordsOk.l0.ok N p⟩, trivial⟩, trivial⟩ rfl rfl E120
theorem S120 : ConS Try.prog 120 C120 := B120.call rfl
/-! impl.MsgOk: function 37 -/
noncomputable def f_impl_MsgOk (x0 : Int) (x1 : Int) (x2 : Bool) (x3 : List Int) : Option (Bool) :=
  (f_impl_from x0 1 7).bind fun y101 =>
  bif (!y101) then
    some false
  else
    (f_impl_isPage x1).bind fun y102 =>
    bif (!y102) then
      some false
    else
      bif x2 then
        bif (!(decide (x0 = (3 : Int)))) then
          bif (!(decide (x0 = (6 : Int)))) then
            some false
          else
            bif (decide (x0 = (3 : Int))) then
              (f_impl_wordsOk x3 4).bind fun y103 =>
              some y103
            else
              bif (decide (x0 = (7 : Int))) then
                (f_impl_wordsOk x3 4).bind fun y104 =>
                some y104
              else
                some (decide ((x3.length : Int) = (0 : Int)))
        else
          bif (decide (x0 = (3 : Int))) then
            (f_impl_wordsOk x3 4).bind fun y105 =>
            some y105
          else
            bif (decide (x0 = (7 : Int))) then
              (f_impl_wordsOk x3 4).bind fun y106 =>
              some y106
            else
              some (decide ((x3.length : Int) = (0 : Int)))
      else
        bif (decide (x0 = (3 : Int))) then
          (f_impl_wordsOk x3 4).bind fun y107 =>
          some y107
        else
          bif (decide (x0 = (7 : Int))) then
            (f_impl_wordsOk x3 4).bind fun y108 =>
            some y108
          else
            some (decide ((x3.length : Int) = (0 : Int)))
noncomputable def C37 : Con := ⟨[(.B, true, [(.int .i64), (.int .i64), .bool, (.sl R0)])], [(false, [.bool])], [(.int .i64), (.int .i64), .bool, (.sl R0)], [.bool], fun (p : Int × Int × Bool × List Int) => f_impl_MsgOk p.1 p.2.1 p.2.2.1 p.2.2.2⟩
noncomputable abbrev K37 : Cons := [(103, C103), (119, C119), (120, C120)]
noncomputable abbrev L37 : List (Nat × Loops) := []
abbrev Q37 : List (Nat × List (Int × Nat) × Nat) := []
noncomputable abbrev X37 : Nat → Ctx := ctxOf tb K37 L37 Q37
theorem E37 : ∀ x, funRun fs X37 6 37 C37 x = C37.fn x := fun x => by kernel_rfl
theorem B37 : ConB Try.prog 37 C37 := ConB.make FS MIX TY (cons := K37) (L := L37) (ptrs := Q37) ⟨S103, S119, S120, trivial⟩ trivial trivial rfl rfl E37
theorem S37 : ConS Try.prog 37 C37 := B37.call rfl
/-! impl.SenderOk$1: function 114 -/
noncomputable def f_impl_SenderOk_1 (x0 : Int) (x1 : Int) (x2 : Bool) (x3 : List Int) : Option (Bool) :=
  (f_impl_MsgOk x0 x1 x2 x3).bind fun y109 =>
  some (!y109)
noncomputable def C114 : Con := ⟨[(.B, true, [(.int .i64), (.int .i64), .bool, (.sl R0)])], [(false, [.bool])], [(.int .i64), (.int .i64), .bool, (.sl R0)], [.bool], fun (p : Int × Int × Bool × List Int) => f_impl_SenderOk_1 p.1 p.2.1 p.2.2.1 p.2.2.2⟩
noncomputable abbrev K114 : Cons := [(37, C37)]
noncomputable abbrev L114 : List (Nat × Loops) := []
abbrev Q114 : List (Nat × List (Int × Nat) × Nat) := []
noncomputable abbrev X114 : Nat → Ctx := ctxOf tb K114 L114 Q114
theorem E114 : ∀ x, funRun fs X114 6 114 C114 x = C114.fn x := fun x => by kernel_rfl
theorem B114 : ConB Try.prog 114 C114 := ConB.make FS MIX TY (cons := K114) (L := L114) (ptrs := Q114) ⟨S37, trivial⟩ trivial trivial rfl rfl E114
theorem S114 : ConS Try.prog 114 C114 := B114.call rfl
/-! impl.SenderOk: function 32 -/
noncomputable def f_impl_SenderOk.l0 : Nat → (List (Int × Int × Bool × List Int)) → Int → Int → Int → Int → (List (Int × Int × Bool × List Int)) → Option ((Int × Int × (List (Int × Int × Bool × List Int))) ⊕ (Int × Int × (List (Int × Int × Bool × List Int))))
  | 0, _, _, _, _, _, _ => none
  | n + 1, p111, p112, p113, p114, p115, p116 =>
    bif (decide (p114 < p113)) then
      bif ((decide ((0 : Int) ≤ p114)) && (decide (p114 < (p111.length : Int)))) then
      (f_impl_SenderOk_1 ((p111.getD p114.toNat (0, 0, false, [])).1) ((p111.getD p114.toNat (0, 0, false, [])).2.1) ((p111.getD p114.toNat (0, 0, false, [])).2.2.1) ((p111.getD p114.toNat (0, 0, false, [])).2.2.2)).bind fun y117 =>
      bif y117 then
        some (.inl (p114, p115, p116))
      else
        f_impl_SenderOk.l0 n p111 p112 p113 (IntKind.wrap .i64 (p114 + (1 : Int))) p115 p116
      else none
    else
      some (.inr (p112, p115, p116))
noncomputable def f_impl_SenderOk (x0 : Int) (x1 : List (Int × Int × Bool × List Int)) : Option (Bool) :=
  (f_impl_isSeq x0).bind fun y110 =>
  bif y110 then
    bif (decide ((x1.length : Int) ≤ (30 : Int))) then
      bif (decide ((IntKind.wrap .i64 (x0 + (x1.length : Int))) ≤ (100000 : Int))) then
        (f_impl_SenderOk.l0 N x1 0 (x1.length : Int) 0 x0 x1).bind fun r118 =>
        cs r118 (fun a119 =>
          some (!(decide ((0 : Int) ≤ a119.1)))) (fun b120 =>
          some true)
      else
        some false
    else
      some false
  else
    some false
noncomputable def C32 : Con := ⟨[(.B, true, [(.int .i64), (.sl R1)])], [(false, [.bool])], [(.int .i64), (.sl R1)], [.bool], fun (p : Int × (List (Int × Int × Bool × List Int))) => f_impl_SenderOk p.1 p.2⟩
noncomputable def f_impl_SenderOk.l0.c : LoopCon := ⟨1530, 4, [0, 1, 4, 7, 8], ⟨[(0, .bor none R1 []), (1, .func 114 []), (4, .int .i64 0), (7, .int .i64 0), (8, .int .i64 0)], [(1002, .box [.int .i64 0, .bor (some 1) R1 []])], 1530⟩, [(.sl R1), (.int .i64), (.int .i64), (.int .i64), (.int .i64), (.sl R1)], [⟨.ret, [4], ⟨[(4, .int .i64 0)], [(1002, .box [.int .i64 0, .bor (some 1) R1 []])], 1530⟩, [(.int .i64), (.int .i64), (.sl R1)]⟩, ⟨.exit 0, [4], ⟨[(4, .int .i64 0)], [(1002, .box [.int .i64 0, .bor (some 1) R1 []])], 1530⟩, [(.int .i64), (.int .i64), (.sl R1)]⟩], fun (p : (List (Int × Int × Bool × List Int)) × Int × Int × Int × Int × (List (Int × Int × Bool × List Int))) => f_impl_SenderOk.l0 N p.1 p.2.1 p.2.2.1 p.2.2.2.1 p.2.2.2.2.1 p.2.2.2.2.2⟩
noncomputable abbrev K32 : Cons := [(112, C112), (114, C114)]
noncomputable abbrev L32 : List (Nat × Loops) := [(178, [(2, f_impl_SenderOk.l0.c)])]
abbrev Q32 : List (Nat × List (Int × Nat) × Nat) := []
noncomputable abbrev X32 : Nat → Ctx := ctxOf tb K32 L32 Q32
theorem f_impl_SenderOk.l0.ok : ∀ n p, (fun (p : (List (Int × Int × Bool × List Int)) × Int × Int × Int × Int × (List (Int × Int × Bool × List Int))) => f_impl_SenderOk.l0 n p.1 p.2.1 p.2.2.1 p.2.2.2.1 p.2.2.2.2.1 p.2.2.2.2.2) p = iterD (roundOf fs X32 4 178 2 true f_impl_SenderOk.l0.c) n p :=
  iter_of (l := fun n => fun (p : (List (Int × Int × Bool × List Int)) × Int × Int × Int × Int × (List (Int × Int × Bool × List Int))) => f_impl_SenderOk.l0 n p.1 p.2.1 p.2.2.1 p.2.2.2.1 p.2.2.2.2.1 p.2.2.2.2.2) (fun _ => rfl) (fun n p => by kernel_rfl)
theorem E32 : ∀ x, funRun fs X32 6 32 C32 x = C32.fn x := fun x => by kernel_rfl
theorem B32 : ConB Try.prog 32 C32 := ConB.make FS MIX TY (cons := K32) (L := L32) (ptrs := Q32) ⟨S112, S114, trivial⟩ trivial ⟨⟨⟨N, fun p => f_impl_SenderOk.l0.ok N p⟩, trivial⟩, trivial⟩ rfl rfl E32
theorem S32 : ConS Try.prog 32 C32 := B32.call rfl
/-! impl.Queue: function 65 -/
noncomputable def f_impl_Queue (x0 : Int) (x1 : List (Int × Int × Bool × List Int)) (x2 : Int) (x3 : Int) (x4 : Bool) (x5 : List Int) : Option (Int × (List (Int × Int × Bool × List Int)) × Bool) :=
  (f_impl_copySender x0 x1).bind fun y121 =>
  (f_impl_SenderOk y121.1 y121.2).bind fun y122 =>
  bif (!y122) then
    some (y121.1, y121.2, false)
  else
    (f_impl_MsgOk x2 x3 x4 x5).bind fun y123 =>
    bif (!y123) then
      some (y121.1, y121.2, false)
    else
      bif (decide ((y121.2.length : Int) = (30 : Int))) then
        some (y121.1, y121.2, false)
      else
        bif (decide ((IntKind.wrap .i64 (y121.1 + (y121.2.length : Int))) = (100000 : Int))) then
          some (y121.1, y121.2, false)
        else
          (f_impl_copyMsg x2 x3 x4 x5).bind fun y124 =>
          bif (Nat.blt (y121.2.length + ([(y124.1, y124.2.1, y124.2.2.1, y124.2.2.2)] : List (Int × Int × Bool × List Int)).length) 2932031007402) then
          (some ((y121.2 ++ ([(y124.1, y124.2.1, y124.2.2.1, y124.2.2.2)] : List (Int × Int × Bool × List Int))) : List (Int × Int × Bool × List Int))).bind fun z125 =>
          some (y121.1, z125, true)
          else none
noncomputable def C65 : Con := ⟨[(.B, true, [(.int .i64), (.sl R1)]), (.B, true, [(.int .i64), (.int .i64), .bool, (.sl R0)])], [(true, [(.int .i64), (.sl R1)]), (false, [.bool])], [(.int .i64), (.sl R1), (.int .i64), (.int .i64), .bool, (.sl R0)], [(.int .i64), (.sl R1), .bool], fun (p : Int × (List (Int × Int × Bool × List Int)) × Int × Int × Bool × List Int) => f_impl_Queue p.1 p.2.1 p.2.2.1 p.2.2.2.1 p.2.2.2.2.1 p.2.2.2.2.2⟩
noncomputable abbrev K65 : Cons := [(32, C32), (37, C37), (111, C111), (138, C138)]
noncomputable abbrev L65 : List (Nat × Loops) := []
abbrev Q65 : List (Nat × List (Int × Nat) × Nat) := []
noncomputable abbrev X65 : Nat → Ctx := ctxOf tb K65 L65 Q65
theorem E65 : ∀ x, funRun fs X65 6 65 C65 x = C65.fn x := fun x => by kernel_rfl
theorem B65 : ConB Try.prog 65 C65 := ConB.make FS MIX TY (cons := K65) (L := L65) (ptrs := Q65) ⟨S32, S37, S111, S138, trivial⟩ trivial trivial rfl rfl E65
theorem S65 : ConS Try.prog 65 C65 := B65.call rfl
/-! laws.eqIntS: function 20 -/
noncomputable def f_laws_eqIntS.l0 : Nat → (List Int) → (List Int) → Bool → Int → Option ((Bool) ⊕ (Bool))
  | 0, _, _, _, _ => none
  | n + 1, p126, p127, p128, p129 =>
    bif (decide (p129 < (p126.length : Int))) then
      bif ((decide ((0 : Int) ≤ p129)) && (decide (p129 < (p126.length : Int)))) then
      bif ((decide ((0 : Int) ≤ p129)) && (decide (p129 < (p127.length : Int)))) then
      bif (!(decide ((p126.getD p129.toNat 0) = (p127.getD p129.toNat 0)))) then
        some (.inl false)
      else
        f_laws_eqIntS.l0 n p126 p127 p128 (IntKind.wrap .i64 (p129 + (1 : Int)))
      else none
      else none
    else
      some (.inr p128)
noncomputable def f_laws_eqIntS (x0 : List Int) (x1 : List Int) : Option (Bool) :=
  bif (!(decide ((x0.length : Int) = (x1.length : Int)))) then
    some false
  else
    (f_laws_eqIntS.l0 N x0 x1 false 0).bind fun r130 =>
    cs r130 (fun a131 =>
      some a131) (fun b132 =>
      some true)
noncomputable def C20 : Con := ⟨[(.B, false, [(.sl R0)]), (.B, false, [(.sl R0)])], [(false, [.bool])], [(.sl R0), (.sl R0)], [.bool], fun (p : List Int × List Int) => f_laws_eqIntS p.1 p.2⟩
noncomputable def f_laws_eqIntS.l0.c : LoopCon := ⟨1000, 6, [0, 1, 4, 5], ⟨[(0, .bor none R0 []), (1, .bor none R0 []), (4, .bool false), (5, .int .i64 0)], [], 1000⟩, [(.sl R0), (.sl R0), .bool, (.int .i64)], [⟨.ret, [4], ⟨[(4, .bool false)], [], 1000⟩, [.bool]⟩, ⟨.exit 0, [4], ⟨[(4, .bool false)], [], 1000⟩, [.bool]⟩], fun (p : List Int × List Int × Bool × Int) => f_laws_eqIntS.l0 N p.1 p.2.1 p.2.2.1 p.2.2.2⟩
noncomputable abbrev K20 : Cons := []
noncomputable abbrev L20 : List (Nat × Loops) := [(20, [(4, f_laws_eqIntS.l0.c)])]
abbrev Q20 : List (Nat × List (Int × Nat) × Nat) := []
noncomputable abbrev X20 : Nat → Ctx := ctxOf tb K20 L20 Q20
theorem f_laws_eqIntS.l0.ok : ∀ n p, (fun (p : List Int × List Int × Bool × Int) => f_laws_eqIntS.l0 n p.1 p.2.1 p.2.2.1 p.2.2.2) p = iterD (roundOf fs X20 6 20 4 false f_laws_eqIntS.l0.c) n p :=
  iter_of (l := fun n => fun (p : List Int × List Int × Bool × Int) => f_laws_eqIntS.l0 n p.1 p.2.1 p.2.2.1 p.2.2.2) (fun _ => rfl) (fun n p => by kernel_rfl)
theorem E20 : ∀ x, funRun fs X20 6 20 C20 x = C20.fn x := fun x => by kernel_rfl
theorem B20 : ConB Try.prog 20 C20 := ConB.make FS MIX TY (cons := K20) (L := L20) (ptrs := Q20) trivial trivial ⟨⟨⟨N, fun p => f_laws_eqIntS.l0.ok N p⟩, trivial⟩, trivial⟩ rfl rfl E20
theorem S20 : ConS Try.prog 20 C20 := B20.call rfl
/-! laws.eqMsg: function 78 -/
noncomputable def f_laws_eqMsg (x0 : Int) (x1 : Int) (x2 : Bool) (x3 : List Int) (x4 : Int) (x5 : Int) (x6 : Bool) (x7 : List Int) : Option (Bool) :=
  bif (!(decide (x0 = x4))) then
    some false
  else
    bif (!(decide (x1 = x5))) then
      some false
    else
      bif (!(x2 == x6)) then
        some false
      else
        (f_laws_eqIntS x3 x7).bind fun y133 =>
        bif (!y133) then
          some false
        else
          some true
noncomputable def C78 : Con := ⟨[(.B, true, [(.int .i64), (.int .i64), .bool, (.sl R0)]), (.B, true, [(.int .i64), (.int .i64), .bool, (.sl R0)])], [(false, [.bool])], [(.int .i64), (.int .i64), .bool, (.sl R0), (.int .i64), (.int .i64), .bool, (.sl R0)], [.bool], fun (p : Int × Int × Bool × List Int × Int × Int × Bool × List Int) => f_laws_eqMsg p.1 p.2.1 p.2.2.1 p.2.2.2.1 p.2.2.2.2.1 p.2.2.2.2.2.1 p.2.2.2.2.2.2.1 p.2.2.2.2.2.2.2⟩
noncomputable abbrev K78 : Cons := [(20, C20)]
noncomputable abbrev L78 : List (Nat × Loops) := []
abbrev Q78 : List (Nat × List (Int × Nat) × Nat) := []
noncomputable abbrev X78 : Nat → Ctx := ctxOf tb K78 L78 Q78
theorem E78 : ∀ x, funRun fs X78 6 78 C78 x = C78.fn x := fun x => by kernel_rfl
theorem B78 : ConB Try.prog 78 C78 := ConB.make FS MIX TY (cons := K78) (L := L78) (ptrs := Q78) ⟨S20, trivial⟩ trivial trivial rfl rfl E78
theorem S78 : ConS Try.prog 78 C78 := B78.call rfl
/-! laws.eqMsgS: function 145 -/
noncomputable def f_laws_eqMsgS.l0 : Nat → (List (Int × Int × Bool × List Int)) → (List (Int × Int × Bool × List Int)) → Bool → Int → Option ((Bool) ⊕ (Bool))
  | 0, _, _, _, _ => none
  | n + 1, p134, p135, p136, p137 =>
    bif (decide (p137 < (p134.length : Int))) then
      bif ((decide ((0 : Int) ≤ p137)) && (decide (p137 < (p134.length : Int)))) then
      bif ((decide ((0 : Int) ≤ p137)) && (decide (p137 < (p135.length : Int)))) then
      (f_laws_eqMsg ((p134.getD p137.toNat (0, 0, false, [])).1) ((p134.getD p137.toNat (0, 0, false, [])).2.1) ((p134.getD p137.toNat (0, 0, false, [])).2.2.1) ((p134.getD p137.toNat (0, 0, false, [])).2.2.2) ((p135.getD p137.toNat (0, 0, false, [])).1) ((p135.getD p137.toNat (0, 0, false, [])).2.1) ((p135.getD p137.toNat (0, 0, false, [])).2.2.1) ((p135.getD p137.toNat (0, 0, false, [])).2.2.2)).bind fun y138 =>
      bif (!y138) then
        some (.inl false)
      else
        f_laws_eqMsgS.l0 n p134 p135 p136 (IntKind.wrap .i64 (p137 + (1 : Int)))
      else none
      else none
    else
      some (.inr p136)
noncomputable def f_laws_eqMsgS (x0 : List (Int × Int × Bool × List Int)) (x1 : List (Int × Int × Bool × List Int)) : Option (Bool) :=
  bif (!(decide ((x0.length : Int) = (x1.length : Int)))) then
    some false
  else
    (f_laws_eqMsgS.l0 N x0 x1 false 0).bind fun r139 =>
    cs r139 (fun a140 =>
      some a140) (fun b141 =>
      some true)
noncomputable def C145 : Con := ⟨[(.B, false, [(.sl R1)]), (.B, false, [(.sl R1)])], [(false, [.bool])], [(.sl R1), (.sl R1)], [.bool], fun (p : (List (Int × Int × Bool × List Int)) × (List (Int × Int × Bool × List Int))) => f_laws_eqMsgS p.1 p.2⟩
noncomputable def f_laws_eqMsgS.l0.c : LoopCon := ⟨1000, 6, [0, 1, 4, 5], ⟨[(0, .bor none R1 []), (1, .bor none R1 []), (4, .bool false), (5, .int .i64 0)], [], 1000⟩, [(.sl R1), (.sl R1), .bool, (.int .i64)], [⟨.ret, [4], ⟨[(4, .bool false)], [], 1000⟩, [.bool]⟩, ⟨.exit 0, [4], ⟨[(4, .bool false)], [], 1000⟩, [.bool]⟩], fun (p : (List (Int × Int × Bool × List Int)) × (List (Int × Int × Bool × List Int)) × Bool × Int) => f_laws_eqMsgS.l0 N p.1 p.2.1 p.2.2.1 p.2.2.2⟩
noncomputable abbrev K145 : Cons := [(78, C78)]
noncomputable abbrev L145 : List (Nat × Loops) := [(145, [(4, f_laws_eqMsgS.l0.c)])]
abbrev Q145 : List (Nat × List (Int × Nat) × Nat) := []
noncomputable abbrev X145 : Nat → Ctx := ctxOf tb K145 L145 Q145
theorem f_laws_eqMsgS.l0.ok : ∀ n p, (fun (p : (List (Int × Int × Bool × List Int)) × (List (Int × Int × Bool × List Int)) × Bool × Int) => f_laws_eqMsgS.l0 n p.1 p.2.1 p.2.2.1 p.2.2.2) p = iterD (roundOf fs X145 6 145 4 false f_laws_eqMsgS.l0.c) n p :=
  iter_of (l := fun n => fun (p : (List (Int × Int × Bool × List Int)) × (List (Int × Int × Bool × List Int)) × Bool × Int) => f_laws_eqMsgS.l0 n p.1 p.2.1 p.2.2.1 p.2.2.2) (fun _ => rfl) (fun n p => by kernel_rfl)
theorem E145 : ∀ x, funRun fs X145 6 145 C145 x = C145.fn x := fun x => by kernel_rfl
theorem B145 : ConB Try.prog 145 C145 := ConB.make FS MIX TY (cons := K145) (L := L145) (ptrs := Q145) ⟨S78, trivial⟩ trivial ⟨⟨⟨N, fun p => f_laws_eqMsgS.l0.ok N p⟩, trivial⟩, trivial⟩ rfl rfl E145
theorem S145 : ConS Try.prog 145 C145 := B145.call rfl
/-! laws.eqSender: function 73 -/
noncomputable def f_laws_eqSender (x0 : Int) (x1 : List (Int × Int × Bool × List Int)) (x2 : Int) (x3 : List (Int × Int × Bool × List Int)) : Option (Bool) :=
  bif (!(decide (x0 = x2))) then
    some false
  else
    (f_laws_eqMsgS x1 x3).bind fun y142 =>
    bif (!y142) then
      some false
    else
      some true
noncomputable def C73 : Con := ⟨[(.B, true, [(.int .i64), (.sl R1)]), (.B, true, [(.int .i64), (.sl R1)])], [(false, [.bool])], [(.int .i64), (.sl R1), (.int .i64), (.sl R1)], [.bool], fun (p : Int × (List (Int × Int × Bool × List Int)) × Int × (List (Int × Int × Bool × List Int))) => f_laws_eqSender p.1 p.2.1 p.2.2.1 p.2.2.2⟩
noncomputable abbrev K73 : Cons := [(145, C145)]
noncomputable abbrev L73 : List (Nat × Loops) := []
abbrev Q73 : List (Nat × List (Int × Nat) × Nat) := []
noncomputable abbrev X73 : Nat → Ctx := ctxOf tb K73 L73 Q73
theorem E73 : ∀ x, funRun fs X73 6 73 C73 x = C73.fn x := fun x => by kernel_rfl
theorem B73 : ConB Try.prog 73 C73 := ConB.make FS MIX TY (cons := K73) (L := L73) (ptrs := Q73) ⟨S145, trivial⟩ trivial trivial rfl rfl E73
theorem S73 : ConS Try.prog 73 C73 := B73.call rfl
/-! laws.markIntS: function 22 -/
noncomputable def f_laws_markIntS.l0 : Nat → Int → Int → Int → (List Int) → Option (Int × Int × List Int)
  | 0, _, _, _, _ => none
  | n + 1, p143, p144, p145, p146 =>
    bif (decide (p145 < (p146.length : Int))) then
      bif ((decide ((0 : Int) ≤ p145)) && (decide (p145 < (p146.length : Int)))) then
      (some ((p146.set p145.toNat p143) : List Int)).bind fun z147 =>
      f_laws_markIntS.l0 n (IntKind.wrap .i64 (p143 + (1 : Int))) p144 (IntKind.wrap .i64 (p145 + (1 : Int))) z147
      else none
    else
      some (p143, p144, p146)
noncomputable def f_laws_markIntS (x0 : List Int) (x1 : Int) : Option (Int × List Int) :=
  (f_laws_markIntS.l0 N x1 0 0 x0).bind fun r148 =>
  some (r148.1, r148.2.2)
noncomputable def C22 : Con := ⟨[(.I, false, [(.sl R0)]), (.B, false, [(.int .i64)])], [(false, [(.int .i64)])], [(.sl R0), (.int .i64)], [(.int .i64), (.sl R0)], fun (p : List Int × Int) => f_laws_markIntS p.1 p.2⟩
noncomputable def f_laws_markIntS.l0.c : LoopCon := ⟨1000, 6, [0, 1, 4, 5], ⟨[(0, .ref 0 [] none), (1, .int .i64 0), (4, .int .i64 0), (5, .int .i64 0)], [(0, .row R0 [])], 1000⟩, [(.int .i64), (.int .i64), (.int .i64), (.sl R0)], [⟨.exit 0, [1, 4], ⟨[(1, .int .i64 0), (4, .int .i64 0)], [(0, .row R0 [])], 1000⟩, [(.int .i64), (.int .i64), (.sl R0)]⟩], fun (p : Int × Int × Int × List Int) => f_laws_markIntS.l0 N p.1 p.2.1 p.2.2.1 p.2.2.2⟩
noncomputable abbrev K22 : Cons := []
noncomputable abbrev L22 : List (Nat × Loops) := [(22, [(2, f_laws_markIntS.l0.c)])]
abbrev Q22 : List (Nat × List (Int × Nat) × Nat) := []
noncomputable abbrev X22 : Nat → Ctx := ctxOf tb K22 L22 Q22
theorem f_laws_markIntS.l0.ok : ∀ n p, (fun (p : Int × Int × Int × List Int) => f_laws_markIntS.l0 n p.1 p.2.1 p.2.2.1 p.2.2.2) p = iterD (roundOf fs X22 6 22 2 false f_laws_markIntS.l0.c) n p :=
  iter_of (l := fun n => fun (p : Int × Int × Int × List Int) => f_laws_markIntS.l0 n p.1 p.2.1 p.2.2.1 p.2.2.2) (fun _ => rfl) (fun n p => by kernel_rfl)
theorem E22 : ∀ x, funG fs X22 6 22 C22 x = C22.fn x := fun x => by kernel_rfl
theorem B22 : ConG Try.prog 22 C22 := ConG.make FS MIX TY (cons := K22) (L := L22) (ptrs := Q22) trivial trivial ⟨⟨⟨N, fun p => f_laws_markIntS.l0.ok N p⟩, trivial⟩, trivial⟩ rfl (by kernel_rfl) E22
theorem S22 : ConS Try.prog 22 C22 := B22.call (by kernel_rfl)
/-! laws.markMsgS: function 146 -/
noncomputable def f_laws_markMsgS.l0 : Nat → Int → Int → Int → (List (Int × Int × Bool × List Int)) → Option (Int × Int × (List (Int × Int × Bool × List Int)))
  | 0, _, _, _, _ => none
  | n + 1, p149, p150, p151, p152 =>
    bif (decide (p151 < (p152.length : Int))) then
      bif ((decide ((0 : Int) ≤ p151)) && (decide (p151 < (p152.length : Int)))) then
      (some ((p152.set p151.toNat (p149, (p152.getD p151.toNat (0, 0, false, [])).2.1, (p152.getD p151.toNat (0, 0, false, [])).2.2.1, (p152.getD p151.toNat (0, 0, false, [])).2.2.2)) : List (Int × Int × Bool × List Int))).bind fun z153 =>
      bif ((decide ((0 : Int) ≤ p151)) && (decide (p151 < (z153.length : Int)))) then
      (some ((z153.set p151.toNat ((z153.getD p151.toNat (0, 0, false, [])).1, (IntKind.wrap .i64 (p149 + (1 : Int))), (z153.getD p151.toNat (0, 0, false, [])).2.2.1, (z153.getD p151.toNat (0, 0, false, [])).2.2.2)) : List (Int × Int × Bool × List Int))).bind fun z154 =>
      bif ((decide ((0 : Int) ≤ p151)) && (decide (p151 < (z154.length : Int)))) then
      (some ((z154.set p151.toNat ((z154.getD p151.toNat (0, 0, false, [])).1, (z154.getD p151.toNat (0, 0, false, [])).2.1, (decide ((Int.tmod (IntKind.wrap .i64 ((IntKind.wrap .i64 (p149 + (1 : Int))) + (1 : Int))) (3 : Int)) = (0 : Int))), (z154.getD p151.toNat (0, 0, false, [])).2.2.2)) : List (Int × Int × Bool × List Int))).bind fun z155 =>
      bif ((decide ((0 : Int) ≤ p151)) && (decide (p151 < (z155.length : Int)))) then
      (f_laws_markIntS ((z155.getD p151.toNat (0, 0, false, [])).2.2.2) (IntKind.wrap .i64 ((IntKind.wrap .i64 ((IntKind.wrap .i64 (p149 + (1 : Int))) + (1 : Int))) + (1 : Int)))).bind fun y156 =>
      (some ((z155.set p151.toNat ((z155.getD p151.toNat (0, 0, false, [])).1, (z155.getD p151.toNat (0, 0, false, [])).2.1, (z155.getD p151.toNat (0, 0, false, [])).2.2.1, y156.2)) : List (Int × Int × Bool × List Int))).bind fun z157 =>
      f_laws_markMsgS.l0 n y156.1 p150 (IntKind.wrap .i64 (p151 + (1 : Int))) z157
      else none
      else none
      else none
      else none
    else
      some (p149, p150, p152)
noncomputable def f_laws_markMsgS (x0 : List (Int × Int × Bool × List Int)) (x1 : Int) : Option (Int × (List (Int × Int × Bool × List Int))) :=
  (f_laws_markMsgS.l0 N x1 0 0 x0).bind fun r158 =>
  some (r158.1, r158.2.2)
noncomputable def C146 : Con := ⟨[(.I, false, [(.sl R1)]), (.B, false, [(.int .i64)])], [(false, [(.int .i64)])], [(.sl R1), (.int .i64)], [(.int .i64), (.sl R1)], fun (p : (List (Int × Int × Bool × List Int)) × Int) => f_laws_markMsgS p.1 p.2⟩
noncomputable def f_laws_markMsgS.l0.c : LoopCon := ⟨1000, 6, [0, 1, 4, 5], ⟨[(0, .ref 0 [] none), (1, .int .i64 0), (4, .int .i64 0), (5, .int .i64 0)], [(0, .row R1 [])], 1000⟩, [(.int .i64), (.int .i64), (.int .i64), (.sl R1)], [⟨.exit 0, [1, 4], ⟨[(1, .int .i64 0), (4, .int .i64 0)], [(0, .row R1 [])], 1000⟩, [(.int .i64), (.int .i64), (.sl R1)]⟩], fun (p : Int × Int × Int × (List (Int × Int × Bool × List Int))) => f_laws_markMsgS.l0 N p.1 p.2.1 p.2.2.1 p.2.2.2⟩
noncomputable abbrev K146 : Cons := [(22, C22)]
noncomputable abbrev L146 : List (Nat × Loops) := [(146, [(2, f_laws_markMsgS.l0.c)])]
abbrev Q146 : List (Nat × List (Int × Nat) × Nat) := []
noncomputable abbrev X146 : Nat → Ctx := ctxOf tb K146 L146 Q146
theorem f_laws_markMsgS.l0.ok : ∀ n p, (fun (p : Int × Int × Int × (List (Int × Int × Bool × List Int))) => f_laws_markMsgS.l0 n p.1 p.2.1 p.2.2.1 p.2.2.2) p = iterD (roundOf fs X146 6 146 2 false f_laws_markMsgS.l0.c) n p :=
  iter_of (l := fun n => fun (p : Int × Int × Int × (List (Int × Int × Bool × List Int))) => f_laws_markMsgS.l0 n p.1 p.2.1 p.2.2.1 p.2.2.2) (fun _ => rfl) (fun n p => by kernel_rfl)
theorem E146 : ∀ x, funG fs X146 6 146 C146 x = C146.fn x := fun x => by kernel_rfl
theorem B146 : ConG Try.prog 146 C146 := ConG.make FS MIX TY (cons := K146) (L := L146) (ptrs := Q146) ⟨S22, trivial⟩ trivial ⟨⟨⟨N, fun p => f_laws_markMsgS.l0.ok N p⟩, trivial⟩, trivial⟩ rfl (by kernel_rfl) E146
theorem S146 : ConS Try.prog 146 C146 := B146.call (by kernel_rfl)
/-! laws.markSender: function 74 -/
noncomputable def f_laws_markSender (x0 : Int) (x1 : List (Int × Int × Bool × List Int)) (x2 : Int) : Option (Int × (List (Int × Int × Bool × List Int))) :=
  (f_laws_markMsgS x1 x2).bind fun y159 =>
  (some (y159.2 : List (Int × Int × Bool × List Int))).bind fun z160 =>
  some (y159.1, z160)
noncomputable def C74 : Con := ⟨[(.I, true, [(.int .i64), (.sl R1)]), (.B, false, [(.int .i64)])], [(false, [(.int .i64)])], [(.int .i64), (.sl R1), (.int .i64)], [(.int .i64), (.sl R1)], fun (p : Int × (List (Int × Int × Bool × List Int)) × Int) => f_laws_markSender p.1 p.2.1 p.2.2⟩
noncomputable abbrev K74 : Cons := [(146, C146)]
noncomputable abbrev L74 : List (Nat × Loops) := []
abbrev Q74 : List (Nat × List (Int × Nat) × Nat) := []
noncomputable abbrev X74 : Nat → Ctx := ctxOf tb K74 L74 Q74
theorem E74 : ∀ x, funG fs X74 6 74 C74 x = C74.fn x := fun x => by kernel_rfl
theorem B74 : ConG Try.prog 74 C74 := ConG.make FS MIX TY (cons := K74) (L := L74) (ptrs := Q74) ⟨S146, trivial⟩ trivial trivial rfl (by kernel_rfl) E74
theorem S74 : ConS Try.prog 74 C74 := B74.call (by kernel_rfl)
/-! laws.markMsg: function 79 -/
noncomputable def f_laws_markMsg (x0 : Int) (x1 : Int) (x2 : Bool) (x3 : List Int) (x4 : Int) : Option (Int × List Int) :=
  (f_laws_markIntS x3 x4).bind fun y161 =>
  (some (y161.2 : List Int)).bind fun z162 =>
  some (y161.1, z162)
noncomputable def C79 : Con := ⟨[(.I, true, [(.int .i64), (.int .i64), .bool, (.sl R0)]), (.B, false, [(.int .i64)])], [(false, [(.int .i64)])], [(.int .i64), (.int .i64), .bool, (.sl R0), (.int .i64)], [(.int .i64), (.sl R0)], fun (p : Int × Int × Bool × List Int × Int) => f_laws_markMsg p.1 p.2.1 p.2.2.1 p.2.2.2.1 p.2.2.2.2⟩
noncomputable abbrev K79 : Cons := [(22, C22)]
noncomputable abbrev L79 : List (Nat × Loops) := []
abbrev Q79 : List (Nat × List (Int × Nat) × Nat) := []
noncomputable abbrev X79 : Nat → Ctx := ctxOf tb K79 L79 Q79
theorem E79 : ∀ x, funG fs X79 6 79 C79 x = C79.fn x := fun x => by kernel_rfl
theorem B79 : ConG Try.prog 79 C79 := ConG.make FS MIX TY (cons := K79) (L := L79) (ptrs := Q79) ⟨S22, trivial⟩ trivial trivial rfl (by kernel_rfl) E79
theorem S79 : ConS Try.prog 79 C79 := B79.call (by kernel_rfl)
/-! laws.heldIntS: function 24 -/
noncomputable def f_laws_heldIntS.l0 : Nat → (List Int) → Int → Int → Int → Option ((Int) ⊕ (Int × Int))
  | 0, _, _, _, _ => none
  | n + 1, p163, p164, p165, p166 =>
    bif (decide (p166 < (p163.length : Int))) then
      bif ((decide ((0 : Int) ≤ p166)) && (decide (p166 < (p163.length : Int)))) then
      bif (!(decide ((p163.getD p166.toNat 0) = p164))) then
        some (.inl (-1))
      else
        f_laws_heldIntS.l0 n p163 (IntKind.wrap .i64 (p164 + (1 : Int))) p165 (IntKind.wrap .i64 (p166 + (1 : Int)))
      else none
    else
      some (.inr (p164, p165))
noncomputable def f_laws_heldIntS (x0 : List Int) (x1 : Int) : Option (Int) :=
  (f_laws_heldIntS.l0 N x0 x1 0 0).bind fun r167 =>
  cs r167 (fun a168 =>
    some a168) (fun b169 =>
    some b169.1)
noncomputable def C24 : Con := ⟨[(.B, false, [(.sl R0)]), (.B, false, [(.int .i64)])], [(false, [(.int .i64)])], [(.sl R0), (.int .i64)], [(.int .i64)], fun (p : List Int × Int) => f_laws_heldIntS p.1 p.2⟩
noncomputable def f_laws_heldIntS.l0.c : LoopCon := ⟨1000, 6, [0, 1, 4, 5], ⟨[(0, .bor none R0 []), (1, .int .i64 0), (4, .int .i64 0), (5, .int .i64 0)], [], 1000⟩, [(.sl R0), (.int .i64), (.int .i64), (.int .i64)], [⟨.ret, [4], ⟨[(4, .int .i64 0)], [], 1000⟩, [(.int .i64)]⟩, ⟨.exit 0, [1, 4], ⟨[(1, .int .i64 0), (4, .int .i64 0)], [], 1000⟩, [(.int .i64), (.int .i64)]⟩], fun (p : List Int × Int × Int × Int) => f_laws_heldIntS.l0 N p.1 p.2.1 p.2.2.1 p.2.2.2⟩
noncomputable abbrev K24 : Cons := []
noncomputable abbrev L24 : List (Nat × Loops) := [(24, [(2, f_laws_heldIntS.l0.c)])]
abbrev Q24 : List (Nat × List (Int × Nat) × Nat) := []
noncomputable abbrev X24 : Nat → Ctx := ctxOf tb K24 L24 Q24
theorem f_laws_heldIntS.l0.ok : ∀ n p, (fun (p : List Int × Int × Int × Int) => f_laws_heldIntS.l0 n p.1 p.2.1 p.2.2.1 p.2.2.2) p = iterD (roundOf fs X24 6 24 2 false f_laws_heldIntS.l0.c) n p :=
  iter_of (l := fun n => fun (p : List Int × Int × Int × Int) => f_laws_heldIntS.l0 n p.1 p.2.1 p.2.2.1 p.2.2.2) (fun _ => rfl) (fun n p => by kernel_rfl)
theorem E24 : ∀ x, funRun fs X24 6 24 C24 x = C24.fn x := fun x => by kernel_rfl
theorem B24 : ConB Try.prog 24 C24 := ConB.make FS MIX TY (cons := K24) (L := L24) (ptrs := Q24) trivial trivial ⟨⟨⟨N, fun p => f_laws_heldIntS.l0.ok N p⟩, trivial⟩, trivial⟩ rfl rfl E24
theorem S24 : ConS Try.prog 24 C24 := B24.call rfl
/-! laws.heldMsgS: function 147 -/
noncomputable def f_laws_heldMsgS.l0 : Nat → (List (Int × Int × Bool × List Int)) → Int → Int → Int → Option ((Int) ⊕ (Int × Int))
  | 0, _, _, _, _ => none
  | n + 1, p170, p171, p172, p173 =>
    bif (decide (p173 < (p170.length : Int))) then
      bif ((decide ((0 : Int) ≤ p173)) && (decide (p173 < (p170.length : Int)))) then
      bif (!(decide (((p170.getD p173.toNat (0, 0, false, [])).1) = p171))) then
        some (.inl (-1))
      else
        bif ((decide ((0 : Int) ≤ p173)) && (decide (p173 < (p170.length : Int)))) then
        bif (!(decide (((p170.getD p173.toNat (0, 0, false, [])).2.1) = (IntKind.wrap .i64 (p171 + (1 : Int)))))) then
          some (.inl (-1))
        else
          bif ((decide ((0 : Int) ≤ p173)) && (decide (p173 < (p170.length : Int)))) then
          bif (!(((p170.getD p173.toNat (0, 0, false, [])).2.2.1) == (decide ((Int.tmod (IntKind.wrap .i64 ((IntKind.wrap .i64 (p171 + (1 : Int))) + (1 : Int))) (3 : Int)) = (0 : Int))))) then
            some (.inl (-1))
          else
            bif ((decide ((0 : Int) ≤ p173)) && (decide (p173 < (p170.length : Int)))) then
            (f_laws_heldIntS ((p170.getD p173.toNat (0, 0, false, [])).2.2.2) (IntKind.wrap .i64 ((IntKind.wrap .i64 ((IntKind.wrap .i64 (p171 + (1 : Int))) + (1 : Int))) + (1 : Int)))).bind fun y174 =>
            bif (decide (y174 < (0 : Int))) then
              some (.inl (-1))
            else
              f_laws_heldMsgS.l0 n p170 y174 p172 (IntKind.wrap .i64 (p173 + (1 : Int)))
            else none
          else none
        else none
      else none
    else
      some (.inr (p171, p172))
noncomputable def f_laws_heldMsgS (x0 : List (Int × Int × Bool × List Int)) (x1 : Int) : Option (Int) :=
  (f_laws_heldMsgS.l0 N x0 x1 0 0).bind fun r175 =>
  cs r175 (fun a176 =>
    some a176) (fun b177 =>
    some b177.1)
noncomputable def C147 : Con := ⟨[(.B, false, [(.sl R1)]), (.B, false, [(.int .i64)])], [(false, [(.int .i64)])], [(.sl R1), (.int .i64)], [(.int .i64)], fun (p : (List (Int × Int × Bool × List Int)) × Int) => f_laws_heldMsgS p.1 p.2⟩
noncomputable def f_laws_heldMsgS.l0.c : LoopCon := ⟨1000, 6, [0, 1, 4, 5], ⟨[(0, .bor none R1 []), (1, .int .i64 0), (4, .int .i64 0), (5, .int .i64 0)], [], 1000⟩, [(.sl R1), (.int .i64), (.int .i64), (.int .i64)], [⟨.ret, [4], ⟨[(4, .int .i64 0)], [], 1000⟩, [(.int .i64)]⟩, ⟨.exit 0, [1, 4], ⟨[(1, .int .i64 0), (4, .int .i64 0)], [], 1000⟩, [(.int .i64), (.int .i64)]⟩], fun (p : (List (Int × Int × Bool × List Int)) × Int × Int × Int) => f_laws_heldMsgS.l0 N p.1 p.2.1 p.2.2.1 p.2.2.2⟩
noncomputable abbrev K147 : Cons := [(24, C24)]
noncomputable abbrev L147 : List (Nat × Loops) := [(147, [(2, f_laws_heldMsgS.l0.c)])]
abbrev Q147 : List (Nat × List (Int × Nat) × Nat) := []
noncomputable abbrev X147 : Nat → Ctx := ctxOf tb K147 L147 Q147
theorem f_laws_heldMsgS.l0.ok : ∀ n p, (fun (p : (List (Int × Int × Bool × List Int)) × Int × Int × Int) => f_laws_heldMsgS.l0 n p.1 p.2.1 p.2.2.1 p.2.2.2) p = iterD (roundOf fs X147 6 147 2 false f_laws_heldMsgS.l0.c) n p :=
  iter_of (l := fun n => fun (p : (List (Int × Int × Bool × List Int)) × Int × Int × Int) => f_laws_heldMsgS.l0 n p.1 p.2.1 p.2.2.1 p.2.2.2) (fun _ => rfl) (fun n p => by kernel_rfl)
theorem E147 : ∀ x, funRun fs X147 6 147 C147 x = C147.fn x := fun x => by kernel_rfl
theorem B147 : ConB Try.prog 147 C147 := ConB.make FS MIX TY (cons := K147) (L := L147) (ptrs := Q147) ⟨S24, trivial⟩ trivial ⟨⟨⟨N, fun p => f_laws_heldMsgS.l0.ok N p⟩, trivial⟩, trivial⟩ rfl rfl E147
theorem S147 : ConS Try.prog 147 C147 := B147.call rfl
/-! laws.heldSender: function 75 -/
noncomputable def f_laws_heldSender (x0 : Int) (x1 : List (Int × Int × Bool × List Int)) (x2 : Int) : Option (Int) :=
  (f_laws_heldMsgS x1 x2).bind fun y178 =>
  bif (decide (y178 < (0 : Int))) then
    some (-1)
  else
    some y178
noncomputable def C75 : Con := ⟨[(.B, true, [(.int .i64), (.sl R1)]), (.B, false, [(.int .i64)])], [(false, [(.int .i64)])], [(.int .i64), (.sl R1), (.int .i64)], [(.int .i64)], fun (p : Int × (List (Int × Int × Bool × List Int)) × Int) => f_laws_heldSender p.1 p.2.1 p.2.2⟩
noncomputable abbrev K75 : Cons := [(147, C147)]
noncomputable abbrev L75 : List (Nat × Loops) := []
abbrev Q75 : List (Nat × List (Int × Nat) × Nat) := []
noncomputable abbrev X75 : Nat → Ctx := ctxOf tb K75 L75 Q75
theorem E75 : ∀ x, funRun fs X75 6 75 C75 x = C75.fn x := fun x => by kernel_rfl
theorem B75 : ConB Try.prog 75 C75 := ConB.make FS MIX TY (cons := K75) (L := L75) (ptrs := Q75) ⟨S147, trivial⟩ trivial trivial rfl rfl E75
theorem S75 : ConS Try.prog 75 C75 := B75.call rfl
/-! laws.FnExactQueue: function 12 -/
noncomputable def f_laws_FnExactQueue (x0 : Int) (x1 : List (Int × Int × Bool × List Int)) (x2 : Int) (x3 : Int) (x4 : Bool) (x5 : List Int) : Option (Bool) :=
  (f_laws_szSender x0 x1 1048576).bind fun y179 =>
  bif (decide (y179 < (0 : Int))) then
    some true
  else
    (f_laws_szMsg x2 x3 x4 x5 y179).bind fun y180 =>
    bif (decide (y180 < (0 : Int))) then
      some true
    else
      (f_laws_toSender x0 x1).bind fun y181 =>
      (f_laws_toMsg x2 x3 x4 x5).bind fun y182 =>
      (f_spec_Queue y181.1 y181.2 y182.1 y182.2.1 y182.2.2.1 y182.2.2.2).bind fun y183 =>
      (f_laws_toSender x0 x1).bind fun y184 =>
      (f_laws_toMsg x2 x3 x4 x5).bind fun y185 =>
      (f_impl_Queue y184.1 y184.2 y185.1 y185.2.1 y185.2.2.1 y185.2.2.2).bind fun y186 =>
      (f_laws_eqSender y186.1 y186.2.1 y183.1 y183.2.1).bind fun y187 =>
      bif (!y187) then
        some false
      else
        bif (!(y186.2.2 == y183.2.2)) then
          some false
        else
          (f_laws_toSender x0 x1).bind fun y188 =>
          (f_laws_eqSender y184.1 y184.2 y188.1 y188.2).bind fun y189 =>
          bif (!y189) then
            some false
          else
            (f_laws_toMsg x2 x3 x4 x5).bind fun y190 =>
            (f_laws_eqMsg y185.1 y185.2.1 y185.2.2.1 y185.2.2.2 y190.1 y190.2.1 y190.2.2.1 y190.2.2.2).bind fun y191 =>
            bif (!y191) then
              some false
            else
              (f_laws_markSender y184.1 y184.2 1).bind fun y192 =>
              (some (y192.2 : List (Int × Int × Bool × List Int))).bind fun z193 =>
              (f_laws_markMsg y185.1 y185.2.1 y185.2.2.1 y185.2.2.2 y192.1).bind fun y194 =>
              (some (y194.2 : List Int)).bind fun z195 =>
              bif (decide (y194.1 < (0 : Int))) then
                some false
              else
                (f_laws_eqSender y186.1 y186.2.1 y183.1 y183.2.1).bind fun y196 =>
                bif (!y196) then
                  some false
                else
                  bif (!(y186.2.2 == y183.2.2)) then
                    some false
                  else
                    (f_laws_markSender y186.1 y186.2.1 1).bind fun y197 =>
                    (some (y197.2 : List (Int × Int × Bool × List Int))).bind fun z198 =>
                    (f_laws_heldSender y186.1 z198 1).bind fun y199 =>
                    bif (decide (y199 < (0 : Int))) then
                      some false
                    else
                      bif (!(decide (y199 = y197.1))) then
                        some false
                      else
                        (f_laws_toSender x0 x1).bind fun y200 =>
                        (f_laws_toMsg x2 x3 x4 x5).bind fun y201 =>
                        (f_impl_Queue y200.1 y200.2 y201.1 y201.2.1 y201.2.2.1 y201.2.2.2).bind fun y202 =>
                        (f_laws_eqSender y202.1 y202.2.1 y183.1 y183.2.1).bind fun y203 =>
                        bif (!y203) then
                          some false
                        else
                          bif (!(y202.2.2 == y183.2.2)) then
                            some false
                          else
                            (f_laws_heldSender y186.1 z198 1).bind fun y204 =>
                            bif (decide (y204 < (0 : Int))) then
                              some false
                            else
                              bif (!(decide (y204 = y197.1))) then
                                some false
                              else
                                some true
noncomputable def C12 : Con := ⟨[(.B, true, [(.int .i64), (.sl R1)]), (.B, true, [(.int .i64), (.int .i64), .bool, (.sl R0)])], [(false, [.bool])], [(.int .i64), (.sl R1), (.int .i64), (.int .i64), .bool, (.sl R0)], [.bool], fun (p : Int × (List (Int × Int × Bool × List Int)) × Int × Int × Bool × List Int) => f_laws_FnExactQueue p.1 p.2.1 p.2.2.1 p.2.2.2.1 p.2.2.2.2.1 p.2.2.2.2.2⟩
noncomputable abbrev K12 : Cons := [(65, C65), (66, C66), (71, C71), (72, C72), (73, C73), (74, C74), (75, C75), (76, C76), (77, C77), (78, C78), (79, C79)]
noncomputable abbrev L12 : List (Nat × Loops) := []
abbrev Q12 : List (Nat × List (Int × Nat) × Nat) := []
noncomputable abbrev X12 : Nat → Ctx := ctxOf tb K12 L12 Q12
theorem E12 : ∀ x, funRun fs X12 6 12 C12 x = C12.fn x := fun x => by kernel_rfl
theorem B12 : ConB Try.prog 12 C12 := ConB.make FS MIX TY (cons := K12) (L := L12) (ptrs := Q12) ⟨S65, S66, S71, S72, S73, S74, S75, S76, S77, S78, S79, trivial⟩ trivial trivial rfl rfl E12
theorem S12 : ConS Try.prog 12 C12 := B12.call rfl
/-- What is left: the plain law. -/
def Pure : Prop := ∀ x : Tup [(.int .i64), (.sl R1), (.int .i64), (.int .i64), .bool, (.sl R0)], WfT [(.int .i64), (.sl R1), (.int .i64), (.int .i64), .bool, (.sl R0)] x → C12.fn x = some (true : Bool)
end
end Go.Abs
