import Derived.Test.YtgifligfbjnmfaaProg
import Derived.Test.YtgifligfbjnmfaaAbsD
import Derived.KernelRfl
namespace Go.Abs
open Go.Proofs
set_option linter.unusedVariables false
set_option maxRecDepth 100000
noncomputable section
abbrev N : Nat := 1152921504606846976
abbrev R0 : RT := .one (.int .u8)
abbrev R1 : RT := .one (.int .i64)
noncomputable def tb : Tb := [(0, ⟨false, [], [], 0, 0⟩),
  (3, ⟨false, [(.int .i64)], [], 0, 8⟩),
  (4, ⟨false, [.bool], [], 0, 1⟩),
  (5, ⟨false, [(.int .u8)], [], 0, 1⟩),
  (22, ⟨false, [(.sl R1)], [], 3, 24⟩),
  (26, ⟨false, [(.sl R0)], [], 5, 24⟩),
  (48, ⟨true, [(.int .i64), (.sl R1), .bool], [(0, 3), (1, 22), (2, 4)], 0, 40⟩),
  (85, ⟨false, [], [], 0, 0⟩),
  (87, ⟨false, [], [], 0, 0⟩),
  (89, ⟨false, [], [], 0, 0⟩),
  (91, ⟨false, [], [], 0, 0⟩),
  (119, ⟨false, [], [], 0, 8⟩),
  (129, ⟨false, [], [], 0, 8⟩),
  (175, ⟨true, [(.sl R0), (.int .i64), (.int .i64)], [(0, 26), (1, 3), (2, 3)], 0, 40⟩)]
noncomputable def fsL : List (Nat × Func) := [(53, Try.f53), (117, Try.f117), (159, Try.f159), (119, Try.f119), (120, Try.f120), (116, Try.f116), (180, Try.f180), (161, Try.f161), (124, Try.f124), (64, Try.f64), (101, Try.f101), (100, Try.f100), (118, Try.f118), (109, Try.f109), (163, Try.f163), (181, Try.f181), (162, Try.f162), (125, Try.f125), (70, Try.f70), (65, Try.f65), (99, Try.f99), (94, Try.f94), (112, Try.f112), (71, Try.f71), (66, Try.f66), (67, Try.f67), (68, Try.f68), (69, Try.f69), (72, Try.f72), (11, Try.f11)]
noncomputable def fs : Nat → Option Func := getF fsL
theorem MIX : Try.prog.follows .mixedOrders = true := by kernel_rfl
theorem TY : tyCheck Try.prog tb = true := by kernel_rfl
theorem CAT : catCheck tb = true := by kernel_rfl
theorem FSP : FsP Try.prog fsL := ⟨Try.func53, Try.func117, Try.func159, Try.func119, Try.func120, Try.func116, Try.func180, Try.func161, Try.func124, Try.func64, Try.func101, Try.func100, Try.func118, Try.func109, Try.func163, Try.func181, Try.func162, Try.func125, Try.func70, Try.func65, Try.func99, Try.func94, Try.func112, Try.func71, Try.func66, Try.func67, Try.func68, Try.func69, Try.func72, Try.func11, trivial⟩
theorem FSC : (fsL.all fun p => fnChk p.2) = true := by kernel_rfl
theorem FS : FsS Try.prog fs := FsS.of FSP FSC
/-! laws.big: function 53 -/
noncomputable def f_laws_big (x0 : List Int) : Option (Bool) :=
  some (decide ((1048576 : Int) < (x0.length : Int)))
noncomputable def C53 : Con := ⟨[(.B, false, [(.sl R0)])], [(false, [.bool])], [(.sl R0)], [.bool], fun (p : List Int) => f_laws_big p⟩
noncomputable abbrev K53 : Cons := []
noncomputable abbrev L53 : List (Nat × Loops) := []
abbrev Q53 : List (Nat × List (Int × Nat) × Nat) := []
noncomputable abbrev X53 : Nat → Ctx := ctxOf tb K53 L53 Q53
theorem E53 : ∀ x, funRun fs X53 6 53 C53 x = C53.fn x := fun x => by kernel_rfl
theorem B53 : ConB Try.prog 53 C53 := ConB.make FS MIX TY (cons := K53) (L := L53) (ptrs := Q53) trivial trivial trivial rfl rfl E53
theorem S53 : ConS Try.prog 53 C53 := B53.call rfl
/-! spec.l1Byte: function 159 -/
noncomputable def f_spec_l1Byte (x0 : List Int) (x1 : Int) (x2 : Int) : Option (Int × Int × Int) :=
  bif (decide (x1 < (x0.length : Int))) then
    bif ((decide ((0 : Int) ≤ x1)) && (decide (x1 < (x0.length : Int)))) then
    some ((bitI .and .i64 (IntKind.wrap .i64 ((bitI .and .i64 (bitI .xor .i64 (shrI .i64 (IntKind.wrap .i64 ((IntKind.wrap .i64 (x2 * (6364136223846793005 : Int))) + (1442695040888963407 : Int))) (33 : Int)) (shrI .i64 (IntKind.wrap .i64 ((IntKind.wrap .i64 (x2 * (6364136223846793005 : Int))) + (1442695040888963407 : Int))) (45 : Int))) (255 : Int)) + (IntKind.wrap .i64 ((x0.getD x1.toNat 0))))) (255 : Int)), (IntKind.wrap .i64 (x1 + (1 : Int))), (IntKind.wrap .i64 ((IntKind.wrap .i64 (x2 * (6364136223846793005 : Int))) + (1442695040888963407 : Int))))
    else none
  else
    some ((bitI .and .i64 (bitI .xor .i64 (shrI .i64 (IntKind.wrap .i64 ((IntKind.wrap .i64 (x2 * (6364136223846793005 : Int))) + (1442695040888963407 : Int))) (33 : Int)) (shrI .i64 (IntKind.wrap .i64 ((IntKind.wrap .i64 (x2 * (6364136223846793005 : Int))) + (1442695040888963407 : Int))) (45 : Int))) (255 : Int)), x1, (IntKind.wrap .i64 ((IntKind.wrap .i64 (x2 * (6364136223846793005 : Int))) + (1442695040888963407 : Int))))
noncomputable def C159 : Con := ⟨[(.P [false, true, true], false, [(.sl R0), (.int .i64), (.int .i64)])], [(false, [(.int .i64)])], [(.sl R0), (.int .i64), (.int .i64)], [(.int .i64), (.int .i64), (.int .i64)], fun (p : List Int × Int × Int) => f_spec_l1Byte p.1 p.2.1 p.2.2⟩
noncomputable abbrev K159 : Cons := []
noncomputable abbrev L159 : List (Nat × Loops) := []
abbrev Q159 : List (Nat × List (Int × Nat) × Nat) := []
noncomputable abbrev X159 : Nat → Ctx := ctxOf tb K159 L159 Q159
theorem E159 : ∀ x, funG fs X159 6 159 C159 x = C159.fn x := fun x => by kernel_rfl
theorem B159 : ConG Try.prog 159 C159 := ConG.make FS MIX TY (cons := K159) (L := L159) (ptrs := Q159) trivial trivial trivial rfl (by kernel_rfl) E159
theorem S159 : ConS Try.prog 159 C159 := B159.call (by kernel_rfl)
/-! spec.l1Below: function 119 -/
noncomputable def f_spec_l1Below (x0 : List Int) (x1 : Int) (x2 : Int) (x3 : Int) : Option (Int × Int × Int) :=
  bif (decide (x3 ≤ (0 : Int))) then
    some (0, x1, x2)
  else
    bif (decide (x3 ≤ (256 : Int))) then
      (f_spec_l1Byte x0 x1 x2).bind fun y1 =>
      bif (decide (x3 = (0 : Int))) then none else
      some ((Int.tmod y1.1 x3), y1.2.1, y1.2.2)
    else
      (f_spec_l1Byte x0 x1 x2).bind fun y2 =>
      (f_spec_l1Byte x0 y2.2.1 y2.2.2).bind fun y3 =>
      (f_spec_l1Byte x0 y3.2.1 y3.2.2).bind fun y4 =>
      (f_spec_l1Byte x0 y4.2.1 y4.2.2).bind fun y5 =>
      bif (decide (x3 = (0 : Int))) then none else
      some ((Int.tmod (IntKind.wrap .i64 ((IntKind.wrap .i64 ((IntKind.wrap .i64 ((IntKind.wrap .i64 (y2.1 * (16777216 : Int))) + (IntKind.wrap .i64 (y3.1 * (65536 : Int))))) + (IntKind.wrap .i64 (y4.1 * (256 : Int))))) + y5.1)) x3), y5.2.1, y5.2.2)
noncomputable def C119 : Con := ⟨[(.P [false, true, true], false, [(.sl R0), (.int .i64), (.int .i64)]), (.B, false, [(.int .i64)])], [(false, [(.int .i64)])], [(.sl R0), (.int .i64), (.int .i64), (.int .i64)], [(.int .i64), (.int .i64), (.int .i64)], fun (p : List Int × Int × Int × Int) => f_spec_l1Below p.1 p.2.1 p.2.2.1 p.2.2.2⟩
noncomputable abbrev K119 : Cons := [(159, C159)]
noncomputable abbrev L119 : List (Nat × Loops) := []
abbrev Q119 : List (Nat × List (Int × Nat) × Nat) := []
noncomputable abbrev X119 : Nat → Ctx := ctxOf tb K119 L119 Q119
theorem E119 : ∀ x, funG fs X119 6 119 C119 x = C119.fn x := fun x => by kernel_rfl
theorem B119 : ConG Try.prog 119 C119 := ConG.make FS MIX TY (cons := K119) (L := L119) (ptrs := Q119) ⟨S159, trivial⟩ trivial trivial rfl (by kernel_rfl) E119
theorem S119 : ConS Try.prog 119 C119 := B119.call (by kernel_rfl)
/-! spec.l1Once: function 120 -/
noncomputable def f_spec_l1Once (x0 : List Int) (x1 : Int) (x2 : Int) (x3 : Int) : Option (Bool × Int × Int) :=
  (f_spec_l1Below x0 x1 x2 x3).bind fun y6 =>
  some ((decide (y6.1 = (0 : Int))), y6.2.1, y6.2.2)
noncomputable def C120 : Con := ⟨[(.P [false, true, true], false, [(.sl R0), (.int .i64), (.int .i64)]), (.B, false, [(.int .i64)])], [(false, [.bool])], [(.sl R0), (.int .i64), (.int .i64), (.int .i64)], [.bool, (.int .i64), (.int .i64)], fun (p : List Int × Int × Int × Int) => f_spec_l1Once p.1 p.2.1 p.2.2.1 p.2.2.2⟩
noncomputable abbrev K120 : Cons := [(119, C119)]
noncomputable abbrev L120 : List (Nat × Loops) := []
abbrev Q120 : List (Nat × List (Int × Nat) × Nat) := []
noncomputable abbrev X120 : Nat → Ctx := ctxOf tb K120 L120 Q120
theorem E120 : ∀ x, funG fs X120 6 120 C120 x = C120.fn x := fun x => by kernel_rfl
theorem B120 : ConG Try.prog 120 C120 := ConG.make FS MIX TY (cons := K120) (L := L120) (ptrs := Q120) ⟨S119, trivial⟩ trivial trivial rfl (by kernel_rfl) E120
theorem S120 : ConS Try.prog 120 C120 := B120.call (by kernel_rfl)
/-! spec.l1PickInt: function 116 -/
noncomputable def f_spec_l1PickInt (x0 : List Int) (x1 : Int) (x2 : Int) (x3 : List Int) : Option (Int × Int × Int) :=
  (f_spec_l1Below x0 x1 x2 (x3.length : Int)).bind fun y7 =>
  bif ((decide ((0 : Int) ≤ y7.1)) && (decide (y7.1 < (x3.length : Int)))) then
  some ((x3.getD y7.1.toNat 0), y7.2.1, y7.2.2)
  else none
noncomputable def C116 : Con := ⟨[(.P [false, true, true], false, [(.sl R0), (.int .i64), (.int .i64)]), (.B, false, [(.sl R1)])], [(false, [(.int .i64)])], [(.sl R0), (.int .i64), (.int .i64), (.sl R1)], [(.int .i64), (.int .i64), (.int .i64)], fun (p : List Int × Int × Int × List Int) => f_spec_l1PickInt p.1 p.2.1 p.2.2.1 p.2.2.2⟩
noncomputable abbrev K116 : Cons := [(119, C119)]
noncomputable abbrev L116 : List (Nat × Loops) := []
abbrev Q116 : List (Nat × List (Int × Nat) × Nat) := []
noncomputable abbrev X116 : Nat → Ctx := ctxOf tb K116 L116 Q116
theorem E116 : ∀ x, funG fs X116 6 116 C116 x = C116.fn x := fun x => by kernel_rfl
theorem B116 : ConG Try.prog 116 C116 := ConG.make FS MIX TY (cons := K116) (L := L116) (ptrs := Q116) ⟨S119, trivial⟩ trivial trivial rfl (by kernel_rfl) E116
theorem S116 : ConS Try.prog 116 C116 := B116.call (by kernel_rfl)
/-! spec.l1DrawList: function 180 -/
noncomputable def f_spec_l1DrawList.l0 : Nat → Int → (List Int) → Int → Int → (List Int) → Option (List Int × Int × Int × List Int)
  | 0, _, _, _, _, _ => none
  | n + 1, p8, p9, p10, p11, p12 =>
    bif (decide (p8 < (4 : Int))) then
      (f_spec_l1PickInt p9 p10 p11 ([0, 1, 5, 300, 65535] : List Int)).bind fun y13 =>
      bif (Nat.blt (p12.length + ([y13.1] : List Int).length) 17592186044416) then
      (some ((p12 ++ ([y13.1] : List Int)) : List Int)).bind fun z14 =>
      f_spec_l1DrawList.l0 n (IntKind.wrap .i64 (p8 + (1 : Int))) p9 y13.2.1 y13.2.2 z14
      else none
    else
      some (p9, p10, p11, p12)
noncomputable def f_spec_l1DrawList (x0 : List Int) (x1 : Int) (x2 : Int) : Option (List Int × Int × Int) :=
  (f_spec_l1DrawList.l0 N 0 x0 x1 x2 ([] : List Int)).bind fun r15 =>
  some (r15.2.2.2, r15.2.1, r15.2.2.1)
noncomputable def C180 : Con := ⟨[(.P [false, true, true], false, [(.sl R0), (.int .i64), (.int .i64)])], [(false, [(.sl R1)])], [(.sl R0), (.int .i64), (.int .i64)], [(.sl R1), (.int .i64), (.int .i64)], fun (p : List Int × Int × Int) => f_spec_l1DrawList p.1 p.2.1 p.2.2⟩
noncomputable def f_spec_l1DrawList.l0.c : LoopCon := ⟨1000, 6, [0, 2, 3, 4], ⟨[(0, .ptr 500 0), (2, .nil (some R1)), (3, .ref 1000 [] none), (4, .int .i64 0)], [(500, .box [.bor (some 0) R0 [], .int .i64 0, .int .i64 0]), (1000, .row R1 [])], 1001⟩, [(.int .i64), (.sl R0), (.int .i64), (.int .i64), (.sl R1)], [⟨.exit 0, [2, 3], ⟨[(2, .nil (some R1)), (3, .ref 1000 [] none)], [(500, .box [.bor (some 0) R0 [], .int .i64 0, .int .i64 0]), (1000, .row R1 [])], 1001⟩, [(.sl R0), (.int .i64), (.int .i64), (.sl R1)]⟩], fun (p : Int × List Int × Int × Int × List Int) => f_spec_l1DrawList.l0 N p.1 p.2.1 p.2.2.1 p.2.2.2.1 p.2.2.2.2⟩
noncomputable abbrev K180 : Cons := [(116, C116)]
noncomputable abbrev L180 : List (Nat × Loops) := [(180, [(3, f_spec_l1DrawList.l0.c)])]
abbrev Q180 : List (Nat × List (Int × Nat) × Nat) := []
noncomputable abbrev X180 : Nat → Ctx := ctxOf tb K180 L180 Q180
theorem f_spec_l1DrawList.l0.ok : ∀ n p, (fun (p : Int × List Int × Int × Int × List Int) => f_spec_l1DrawList.l0 n p.1 p.2.1 p.2.2.1 p.2.2.2.1 p.2.2.2.2) p = iterD (roundOf fs X180 6 180 3 false f_spec_l1DrawList.l0.c) n p :=
  iter_of (l := fun n => fun (p : Int × List Int × Int × Int × List Int) => f_spec_l1DrawList.l0 n p.1 p.2.1 p.2.2.1 p.2.2.2.1 p.2.2.2.2) (fun _ => rfl) (fun n p => by kernel_rfl)
theorem E180 : ∀ x, funG fs X180 6 180 C180 x = C180.fn x := fun x => by kernel_rfl
theorem B180 : ConG Try.prog 180 C180 := ConG.make FS MIX TY (cons := K180) (L := L180) (ptrs := Q180) ⟨S116, trivial⟩ trivial ⟨⟨⟨N, fun p => f_spec_l1DrawList.l0.ok N p⟩, trivial⟩, trivial⟩ rfl (by kernel_rfl) E180
theorem S180 : ConS Try.prog 180 C180 := B180.call (by kernel_rfl)
/-! spec.l3DrawRight: function 161 -/
noncomputable def f_spec_l3DrawRight (x0 : List Int) (x1 : Int) (x2 : Int) : Option (Int × List Int × Bool × Int × Int) :=
  (f_spec_l1Below x0 x1 x2 3).bind fun y16 =>
  (f_spec_l1Once x0 y16.2.1 y16.2.2 3).bind fun y17 =>
  bif (!(decide (y16.1 = (0 : Int)))) then
    (f_spec_l1DrawList x0 y17.2.1 y17.2.2).bind fun y18 =>
    some (y16.1, y18.1, y17.1, y18.2.1, y18.2.2)
  else
    some (y16.1, [], y17.1, y17.2.1, y17.2.2)
noncomputable def C161 : Con := ⟨[(.P [false, true, true], false, [(.sl R0), (.int .i64), (.int .i64)])], [(true, [(.int .i64), (.sl R1), .bool])], [(.sl R0), (.int .i64), (.int .i64)], [(.int .i64), (.sl R1), .bool, (.int .i64), (.int .i64)], fun (p : List Int × Int × Int) => f_spec_l3DrawRight p.1 p.2.1 p.2.2⟩
noncomputable abbrev K161 : Cons := [(119, C119), (120, C120), (180, C180)]
noncomputable abbrev L161 : List (Nat × Loops) := []
abbrev Q161 : List (Nat × List (Int × Nat) × Nat) := []
noncomputable abbrev X161 : Nat → Ctx := ctxOf tb K161 L161 Q161
theorem E161 : ∀ x, funG fs X161 6 161 C161 x = C161.fn x := fun x => by kernel_rfl
theorem B161 : ConG Try.prog 161 C161 := ConG.make FS MIX TY (cons := K161) (L := L161) (ptrs := Q161) ⟨S119, S120, S180, trivial⟩ trivial trivial rfl (by kernel_rfl) E161
theorem S161 : ConS Try.prog 161 C161 := B161.call (by kernel_rfl)
/-! spec.l3Draw: function 124 -/
noncomputable def f_spec_l3Draw (x0 : List Int) (x1 : Int) (x2 : Int) : Option (Int × List Int × Bool × Int × Int) :=
  (f_spec_l3DrawRight x0 x1 x2).bind fun y19 =>
  (f_spec_l1Below x0 y19.2.2.2.1 y19.2.2.2.2 12).bind fun y20 =>
  bif (decide (y20.1 = (0 : Int))) then
    (f_spec_l1Below x0 y20.2.1 y20.2.2 5).bind fun y21 =>
    some ((IntKind.wrap .i64 (y21.1 - (1 : Int))), y19.2.1, y19.2.2.1, y21.2.1, y21.2.2)
  else
    bif (decide (y20.1 = (1 : Int))) then
      bif (Nat.blt (y19.2.1.length + ([3] : List Int).length) 17592186044416) then
      (some ((y19.2.1 ++ ([3] : List Int)) : List Int)).bind fun z22 =>
      some (y19.1, z22, y19.2.2.1, y20.2.1, y20.2.2)
      else none
    else
      bif (decide (y20.1 = (2 : Int))) then
        some (y19.1, [], y19.2.2.1, y20.2.1, y20.2.2)
      else
        some (y19.1, y19.2.1, y19.2.2.1, y20.2.1, y20.2.2)
noncomputable def C124 : Con := ⟨[(.P [false, true, true], false, [(.sl R0), (.int .i64), (.int .i64)])], [(true, [(.int .i64), (.sl R1), .bool])], [(.sl R0), (.int .i64), (.int .i64)], [(.int .i64), (.sl R1), .bool, (.int .i64), (.int .i64)], fun (p : List Int × Int × Int) => f_spec_l3Draw p.1 p.2.1 p.2.2⟩
noncomputable abbrev K124 : Cons := [(119, C119), (161, C161)]
noncomputable abbrev L124 : List (Nat × Loops) := []
abbrev Q124 : List (Nat × List (Int × Nat) × Nat) := []
noncomputable abbrev X124 : Nat → Ctx := ctxOf tb K124 L124 Q124
theorem E124 : ∀ x, funG fs X124 6 124 C124 x = C124.fn x := fun x => by kernel_rfl
theorem B124 : ConG Try.prog 124 C124 := ConG.make FS MIX TY (cons := K124) (L := L124) (ptrs := Q124) ⟨S119, S161, trivial⟩ trivial trivial rfl (by kernel_rfl) E124
theorem S124 : ConS Try.prog 124 C124 := B124.call (by kernel_rfl)
/-! spec.DrawFrameWrite: function 64 -/
noncomputable def f_spec_DrawFrameWrite.l0 : Nat → (List Int) → Int → Int → Int → Bool → Option (List Int × Int × Int × Bool)
  | 0, _, _, _, _, _ => none
  | n + 1, p23, p24, p25, p26, p27 =>
    bif (decide (p25 < (p23.length : Int))) then
      bif (decide (p25 < (4000 : Int))) then
        bif ((decide ((0 : Int) ≤ p25)) && (decide (p25 < (p23.length : Int)))) then
        f_spec_DrawFrameWrite.l0 n p23 (bitI .and .i64 (IntKind.wrap .i64 ((IntKind.wrap .i64 ((IntKind.wrap .i64 (p24 * (131 : Int))) + (IntKind.wrap .i64 ((p23.getD p25.toNat 0))))) + (7 : Int))) (1073741823 : Int)) (IntKind.wrap .i64 (p25 + (1 : Int))) p26 p27
        else none
      else
        some (p23, p24, p26, p27)
    else
      some (p23, p24, p26, p27)
noncomputable def f_spec_DrawFrameWrite (x0 : List Int) : Option (Int × List Int × Bool × Int × Int) :=
  (f_spec_DrawFrameWrite.l0 N x0 (IntKind.wrap .i64 ((20404 : Int) + (x0.length : Int))) 0 0 false).bind fun r28 =>
  (f_spec_l3Draw r28.1 0 r28.2.1).bind fun y29 =>
  (f_spec_l1Below r28.1 y29.2.2.2.1 y29.2.2.2.2 6).bind fun y30 =>
  (f_spec_l1PickInt r28.1 y30.2.1 y30.2.2 ([0, 9, 65535, 65536, -1] : List Int)).bind fun y31 =>
  some (y29.1, y29.2.1, y29.2.2.1, (IntKind.wrap .i64 (y30.1 - (1 : Int))), y31.1)
noncomputable def C64 : Con := ⟨[(.B, false, [(.sl R0)])], [(true, [(.int .i64), (.sl R1), .bool]), (false, [(.int .i64)]), (false, [(.int .i64)])], [(.sl R0)], [(.int .i64), (.sl R1), .bool, (.int .i64), (.int .i64)], fun (p : List Int) => f_spec_DrawFrameWrite p⟩
noncomputable def f_spec_DrawFrameWrite.l0.c : LoopCon := ⟨1097, 5, [0, 3, 4], ⟨[(0, .bor none R0 []), (3, .int .i64 0), (4, .int .i64 0)], [(1001, .box [.int .i64 0, .nil (some R1), .bool false])], 1097⟩, [(.sl R0), (.int .i64), (.int .i64), (.int .i64), .bool], [⟨.exit 0, [0, 3], ⟨[(0, .bor none R0 []), (3, .int .i64 0)], [(1001, .box [.int .i64 0, .nil (some R1), .bool false])], 1097⟩, [(.sl R0), (.int .i64), (.int .i64), .bool]⟩], fun (p : List Int × Int × Int × Int × Bool) => f_spec_DrawFrameWrite.l0 N p.1 p.2.1 p.2.2.1 p.2.2.2.1 p.2.2.2.2⟩
noncomputable abbrev K64 : Cons := [(116, C116), (119, C119), (124, C124)]
noncomputable abbrev L64 : List (Nat × Loops) := [(117, [(3, f_spec_DrawFrameWrite.l0.c)])]
abbrev Q64 : List (Nat × List (Int × Nat) × Nat) := []
noncomputable abbrev X64 : Nat → Ctx := ctxOf tb K64 L64 Q64
theorem f_spec_DrawFrameWrite.l0.ok : ∀ n p, (fun (p : List Int × Int × Int × Int × Bool) => f_spec_DrawFrameWrite.l0 n p.1 p.2.1 p.2.2.1 p.2.2.2.1 p.2.2.2.2) p = iterD (roundOf fs X64 5 117 3 true f_spec_DrawFrameWrite.l0.c) n p :=
  iter_of (l := fun n => fun (p : List Int × Int × Int × Int × Bool) => f_spec_DrawFrameWrite.l0 n p.1 p.2.1 p.2.2.1 p.2.2.2.1 p.2.2.2.2) (fun _ => rfl) (fun n p => by kernel_rfl)
theorem E64 : ∀ x, funRun fs X64 6 64 C64 x = C64.fn x := fun x => by kernel_rfl
theorem B64 : ConB Try.prog 64 C64 := ConB.make FS MIX TY (cons := K64) (L := L64) (ptrs := Q64) ⟨S116, S119, S124, trivial⟩ trivial ⟨⟨⟨N, fun p => f_spec_DrawFrameWrite.l0.ok N p⟩, trivial⟩, trivial⟩ rfl rfl E64
theorem S64 : ConS Try.prog 64 C64 := B64.call rfl
/-! slices.Clone[[]int,int]: function 101 -/
noncomputable def f_slices_Clone_int_int (x0 : List Int) : Option (List Int) := bif Nat.blt (0 + x0.length) 17592186044416 then some x0 else none
noncomputable def C101 : Con := ⟨[(.B, false, [(.sl R1)])], [(false, [(.sl R1)])], [(.sl R1)], [(.sl R1)], f_slices_Clone_int_int⟩
noncomputable abbrev X101 : Nat → Ctx := ctxOf tb [] [] []
theorem E101 : ∀ x : List R1.den, bodyRun fs X101 6 101 C101 [] [] [.bor (some 1000) R1 x] [] = f_slices_Clone_int_int x := fun x => by kernel_rfl
theorem Z101 : bodyRun fs X101 6 101 C101 [] [] [.nil (some R1)] [] = f_slices_Clone_int_int ([] : List R1.den) := by kernel_rfl
theorem B101 : ConB Try.prog 101 C101 := ConB.copy FS MIX TY (cons := []) (L := []) (ptrs := []) trivial trivial trivial rfl E101 Z101
theorem S101 : ConS Try.prog 101 C101 := B101.call rfl
/-! impl.copyFrame: function 100 -/
noncomputable def f_impl_copyFrame (x0 : Int) (x1 : List Int) (x2 : Bool) : Option (Int × List Int × Bool) :=
  (f_slices_Clone_int_int x1).bind fun y32 =>
  some (x0, y32, x2)
noncomputable def C100 : Con := ⟨[(.B, true, [(.int .i64), (.sl R1), .bool])], [(true, [(.int .i64), (.sl R1), .bool])], [(.int .i64), (.sl R1), .bool], [(.int .i64), (.sl R1), .bool], fun (p : Int × List Int × Bool) => f_impl_copyFrame p.1 p.2.1 p.2.2⟩
noncomputable abbrev K100 : Cons := [(101, C101)]
noncomputable abbrev L100 : List (Nat × Loops) := []
abbrev Q100 : List (Nat × List (Int × Nat) × Nat) := []
noncomputable abbrev X100 : Nat → Ctx := ctxOf tb K100 L100 Q100
theorem E100 : ∀ x, funRun fs X100 6 100 C100 x = C100.fn x := fun x => by kernel_rfl
theorem B100 : ConB Try.prog 100 C100 := ConB.make FS MIX TY (cons := K100) (L := L100) (ptrs := Q100) ⟨S101, trivial⟩ trivial trivial rfl rfl E100
theorem S100 : ConS Try.prog 100 C100 := B100.call rfl
/-! impl.from: function 118 -/
noncomputable def f_impl_from (x0 : Int) (x1 : Int) (x2 : Int) : Option (Bool) :=
  bif (decide (x1 ≤ x0)) then
    some (decide (x0 ≤ x2))
  else
    some false
noncomputable def C118 : Con := ⟨[(.B, false, [(.int .i64)]), (.B, false, [(.int .i64)]), (.B, false, [(.int .i64)])], [(false, [.bool])], [(.int .i64), (.int .i64), (.int .i64)], [.bool], fun (p : Int × Int × Int) => f_impl_from p.1 p.2.1 p.2.2⟩
noncomputable abbrev K118 : Cons := []
noncomputable abbrev L118 : List (Nat × Loops) := []
abbrev Q118 : List (Nat × List (Int × Nat) × Nat) := []
noncomputable abbrev X118 : Nat → Ctx := ctxOf tb K118 L118 Q118
theorem E118 : ∀ x, funRun fs X118 6 118 C118 x = C118.fn x := fun x => by kernel_rfl
theorem B118 : ConB Try.prog 118 C118 := ConB.make FS MIX TY (cons := K118) (L := L118) (ptrs := Q118) trivial trivial trivial rfl rfl E118
theorem S118 : ConS Try.prog 118 C118 := B118.call rfl
/-! impl.isWord: function 109 -/
noncomputable def f_impl_isWord (x0 : Int) : Option (Bool) :=
  (f_impl_from x0 0 65535).bind fun y33 =>
  some y33
noncomputable def C109 : Con := ⟨[(.B, false, [(.int .i64)])], [(false, [.bool])], [(.int .i64)], [.bool], fun (p : Int) => f_impl_isWord p⟩
noncomputable abbrev K109 : Cons := [(118, C118)]
noncomputable abbrev L109 : List (Nat × Loops) := []
abbrev Q109 : List (Nat × List (Int × Nat) × Nat) := []
noncomputable abbrev X109 : Nat → Ctx := ctxOf tb K109 L109 Q109
theorem E109 : ∀ x, funRun fs X109 6 109 C109 x = C109.fn x := fun x => by kernel_rfl
theorem B109 : ConB Try.prog 109 C109 := ConB.make FS MIX TY (cons := K109) (L := L109) (ptrs := Q109) ⟨S118, trivial⟩ trivial trivial rfl rfl E109
theorem S109 : ConS Try.prog 109 C109 := B109.call rfl
/-! impl.wordsOk$1: function 163 -/
noncomputable def f_impl_wordsOk_1 (x0 : Int) : Option (Bool) :=
  (f_impl_isWord x0).bind fun y34 =>
  some (!y34)
noncomputable def C163 : Con := ⟨[(.B, false, [(.int .i64)])], [(false, [.bool])], [(.int .i64)], [.bool], fun (p : Int) => f_impl_wordsOk_1 p⟩
noncomputable abbrev K163 : Cons := [(109, C109)]
noncomputable abbrev L163 : List (Nat × Loops) := []
abbrev Q163 : List (Nat × List (Int × Nat) × Nat) := []
noncomputable abbrev X163 : Nat → Ctx := ctxOf tb K163 L163 Q163
theorem E163 : ∀ x, funRun fs X163 6 163 C163 x = C163.fn x := fun x => by kernel_rfl
theorem B163 : ConB Try.prog 163 C163 := ConB.make FS MIX TY (cons := K163) (L := L163) (ptrs := Q163) ⟨S109, trivial⟩ trivial trivial rfl rfl E163
theorem S163 : ConS Try.prog 163 C163 := B163.call rfl
/-! impl.wordsOk: function 125 -/
noncomputable def f_impl_wordsOk.l0 : Nat → (List Int) → Int → Int → Int → Option ((Int) ⊕ (Int))
  | 0, _, _, _, _ => none
  | n + 1, p35, p36, p37, p38 =>
    bif (decide (p38 < p37)) then
      bif ((decide ((0 : Int) ≤ p38)) && (decide (p38 < (p35.length : Int)))) then
      (f_impl_wordsOk_1 (p35.getD p38.toNat 0)).bind fun y39 =>
      bif y39 then
        some (.inl p38)
      else
        f_impl_wordsOk.l0 n p35 p36 p37 (IntKind.wrap .i64 (p38 + (1 : Int)))
      else none
    else
      some (.inr p36)
noncomputable def f_impl_wordsOk (x0 : List Int) (x1 : Int) : Option (Bool) :=
  bif (decide ((x0.length : Int) = x1)) then
    (f_impl_wordsOk.l0 N x0 0 (x0.length : Int) 0).bind fun r40 =>
    cs r40 (fun a41 =>
      some (!(decide ((0 : Int) ≤ a41)))) (fun b42 =>
      some true)
  else
    some false
noncomputable def C125 : Con := ⟨[(.B, false, [(.sl R1)]), (.B, false, [(.int .i64)])], [(false, [.bool])], [(.sl R1), (.int .i64)], [.bool], fun (p : List Int × Int) => f_impl_wordsOk p.1 p.2⟩
noncomputable def f_impl_wordsOk.l0.c : LoopCon := ⟨1274, 4, [0, 1, 4, 7, 8], ⟨[(0, .bor none R1 []), (1, .func 163 []), (4, .int .i64 0), (7, .int .i64 0), (8, .int .i64 0)], [], 1274⟩, [(.sl R1), (.int .i64), (.int .i64), (.int .i64)], [⟨.ret, [4], ⟨[(4, .int .i64 0)], [], 1274⟩, [(.int .i64)]⟩, ⟨.exit 0, [4], ⟨[(4, .int .i64 0)], [], 1274⟩, [(.int .i64)]⟩], fun (p : List Int × Int × Int × Int) => f_impl_wordsOk.l0 N p.1 p.2.1 p.2.2.1 p.2.2.2⟩
noncomputable abbrev K125 : Cons := [(163, C163)]
noncomputable abbrev L125 : List (Nat × Loops) := [(181, [(2, f_impl_wordsOk.l0.c)])]
abbrev Q125 : List (Nat × List (Int × Nat) × Nat) := []
noncomputable abbrev X125 : Nat → Ctx := ctxOf tb K125 L125 Q125
theorem f_impl_wordsOk.l0.ok : ∀ n p, (fun (p : List Int × Int × Int × Int) => f_impl_wordsOk.l0 n p.1 p.2.1 p.2.2.1 p.2.2.2) p = iterD (roundOf fs X125 4 181 2 true f_impl_wordsOk.l0.c) n p :=
  iter_of (l := fun n => fun (p : List Int × Int × Int × Int) => f_impl_wordsOk.l0 n p.1 p.2.1 p.2.2.1 p.2.2.2) (fun _ => rfl) (fun n p => by kernel_rfl)
theorem E125 : ∀ x, funRun fs X125 6 125 C125 x = C125.fn x := fun x => by kernel_rfl
theorem B125 : ConB Try.prog 125 C125 := ConB.make FS MIX TY (cons := K125) (L := L125) (ptrs := Q125) ⟨S163, trivial⟩ trivial ⟨⟨⟨N, fun p => f_impl_wordsOk.l0.ok N p⟩, trivial⟩, trivial⟩ rfl rfl E125
theorem S125 : ConS Try.prog 125 C125 := B125.call rfl
/-! impl.FrameOk: function 70 -/
noncomputable def f_impl_FrameOk (x0 : Int) (x1 : List Int) (x2 : Bool) : Option (Bool) :=
  bif (decide (x0 = (0 : Int))) then
    some (decide ((x1.length : Int) = (0 : Int)))
  else
    bif (decide (x0 = (1 : Int))) then
      (f_impl_wordsOk x1 4).bind fun y43 =>
      some y43
    else
      bif (decide (x0 = (2 : Int))) then
        (f_impl_wordsOk x1 4).bind fun y44 =>
        some y44
      else
        some false
noncomputable def C70 : Con := ⟨[(.B, true, [(.int .i64), (.sl R1), .bool])], [(false, [.bool])], [(.int .i64), (.sl R1), .bool], [.bool], fun (p : Int × List Int × Bool) => f_impl_FrameOk p.1 p.2.1 p.2.2⟩
noncomputable abbrev K70 : Cons := [(125, C125)]
noncomputable abbrev L70 : List (Nat × Loops) := []
abbrev Q70 : List (Nat × List (Int × Nat) × Nat) := []
noncomputable abbrev X70 : Nat → Ctx := ctxOf tb K70 L70 Q70
theorem E70 : ∀ x, funRun fs X70 6 70 C70 x = C70.fn x := fun x => by kernel_rfl
theorem B70 : ConB Try.prog 70 C70 := ConB.make FS MIX TY (cons := K70) (L := L70) (ptrs := Q70) ⟨S125, trivial⟩ trivial trivial rfl rfl E70
theorem S70 : ConS Try.prog 70 C70 := B70.call rfl
/-! impl.FrameWrite: function 65 -/
noncomputable def f_impl_FrameWrite (x0 : Int) (x1 : List Int) (x2 : Bool) (x3 : Int) (x4 : Int) : Option (Int × List Int × Bool × Bool) :=
  (f_impl_copyFrame x0 x1 x2).bind fun y45 =>
  (f_impl_FrameOk y45.1 y45.2.1 y45.2.2).bind fun y46 =>
  bif (!y46) then
    some (y45.1, y45.2.1, y45.2.2, false)
  else
    bif (!(decide (y45.1 = (2 : Int)))) then
      some (y45.1, y45.2.1, y45.2.2, false)
    else
      (f_impl_from x3 0 3).bind fun y47 =>
      bif (!y47) then
        some (y45.1, y45.2.1, y45.2.2, false)
      else
        (f_impl_isWord x4).bind fun y48 =>
        bif (!y48) then
          some (y45.1, y45.2.1, y45.2.2, false)
        else
          bif ((decide ((0 : Int) ≤ x3)) && (decide (x3 < (y45.2.1.length : Int)))) then
          (some ((y45.2.1.set x3.toNat x4) : List Int)).bind fun z49 =>
          some (y45.1, z49, y45.2.2, true)
          else none
noncomputable def C65 : Con := ⟨[(.B, true, [(.int .i64), (.sl R1), .bool]), (.B, false, [(.int .i64)]), (.B, false, [(.int .i64)])], [(true, [(.int .i64), (.sl R1), .bool]), (false, [.bool])], [(.int .i64), (.sl R1), .bool, (.int .i64), (.int .i64)], [(.int .i64), (.sl R1), .bool, .bool], fun (p : Int × List Int × Bool × Int × Int) => f_impl_FrameWrite p.1 p.2.1 p.2.2.1 p.2.2.2.1 p.2.2.2.2⟩
noncomputable abbrev K65 : Cons := [(70, C70), (100, C100), (109, C109), (118, C118)]
noncomputable abbrev L65 : List (Nat × Loops) := []
abbrev Q65 : List (Nat × List (Int × Nat) × Nat) := []
noncomputable abbrev X65 : Nat → Ctx := ctxOf tb K65 L65 Q65
theorem E65 : ∀ x, funRun fs X65 6 65 C65 x = C65.fn x := fun x => by kernel_rfl
theorem B65 : ConB Try.prog 65 C65 := ConB.make FS MIX TY (cons := K65) (L := L65) (ptrs := Q65) ⟨S70, S100, S109, S118, trivial⟩ trivial trivial rfl rfl E65
theorem S65 : ConS Try.prog 65 C65 := B65.call rfl
/-! spec.l3Copy: function 99 -/
noncomputable def f_spec_l3Copy (x0 : Int) (x1 : List Int) (x2 : Bool) : Option (Int × List Int × Bool) :=
  bif (Nat.blt (([] : List Int).length + x1.length) 17592186044416) then
  (some ((([] : List Int) ++ x1) : List Int)).bind fun z50 =>
  some (x0, z50, x2)
  else none
noncomputable def C99 : Con := ⟨[(.B, true, [(.int .i64), (.sl R1), .bool])], [(true, [(.int .i64), (.sl R1), .bool])], [(.int .i64), (.sl R1), .bool], [(.int .i64), (.sl R1), .bool], fun (p : Int × List Int × Bool) => f_spec_l3Copy p.1 p.2.1 p.2.2⟩
noncomputable abbrev K99 : Cons := []
noncomputable abbrev L99 : List (Nat × Loops) := []
abbrev Q99 : List (Nat × List (Int × Nat) × Nat) := []
noncomputable abbrev X99 : Nat → Ctx := ctxOf tb K99 L99 Q99
theorem E99 : ∀ x, funRun fs X99 6 99 C99 x = C99.fn x := fun x => by kernel_rfl
theorem B99 : ConB Try.prog 99 C99 := ConB.make FS MIX TY (cons := K99) (L := L99) (ptrs := Q99) trivial trivial trivial rfl rfl E99
theorem S99 : ConS Try.prog 99 C99 := B99.call rfl
/-! spec.l1In: function 94 -/
noncomputable def f_spec_l1In (x0 : Int) (x1 : Int) (x2 : Int) : Option (Bool) :=
  bif (decide (x1 ≤ x0)) then
    some (decide (x0 ≤ x2))
  else
    some false
noncomputable def C94 : Con := ⟨[(.B, false, [(.int .i64)]), (.B, false, [(.int .i64)]), (.B, false, [(.int .i64)])], [(false, [.bool])], [(.int .i64), (.int .i64), (.int .i64)], [.bool], fun (p : Int × Int × Int) => f_spec_l1In p.1 p.2.1 p.2.2⟩
noncomputable abbrev K94 : Cons := []
noncomputable abbrev L94 : List (Nat × Loops) := []
abbrev Q94 : List (Nat × List (Int × Nat) × Nat) := []
noncomputable abbrev X94 : Nat → Ctx := ctxOf tb K94 L94 Q94
theorem E94 : ∀ x, funRun fs X94 6 94 C94 x = C94.fn x := fun x => by kernel_rfl
theorem B94 : ConB Try.prog 94 C94 := ConB.make FS MIX TY (cons := K94) (L := L94) (ptrs := Q94) trivial trivial trivial rfl rfl E94
theorem S94 : ConS Try.prog 94 C94 := B94.call rfl
/-! spec.l1Words: function 112 -/
noncomputable def f_spec_l1Words.l0 : Nat → (List Int) → Int → Bool → Int → Option ((Bool) ⊕ (List Int × Int × Bool))
  | 0, _, _, _, _ => none
  | n + 1, p51, p52, p53, p54 =>
    bif (decide (p54 < (p51.length : Int))) then
      bif ((decide ((0 : Int) ≤ p54)) && (decide (p54 < (p51.length : Int)))) then
      (f_spec_l1In (p51.getD p54.toNat 0) 0 65535).bind fun y55 =>
      bif (!y55) then
        some (.inl false)
      else
        f_spec_l1Words.l0 n p51 p52 p53 (IntKind.wrap .i64 (p54 + (1 : Int)))
      else none
    else
      some (.inr (p51, p52, p53))
noncomputable def f_spec_l1Words (x0 : List Int) (x1 : Int) : Option (Bool) :=
  (f_spec_l1Words.l0 N x0 x1 false 0).bind fun r56 =>
  cs r56 (fun a57 =>
    some a57) (fun b58 =>
    some (decide ((b58.1.length : Int) = b58.2.1)))
noncomputable def C112 : Con := ⟨[(.B, false, [(.sl R1)]), (.B, false, [(.int .i64)])], [(false, [.bool])], [(.sl R1), (.int .i64)], [.bool], fun (p : List Int × Int) => f_spec_l1Words p.1 p.2⟩
noncomputable def f_spec_l1Words.l0.c : LoopCon := ⟨1000, 6, [0, 1, 4, 5], ⟨[(0, .bor none R1 []), (1, .int .i64 0), (4, .bool false), (5, .int .i64 0)], [], 1000⟩, [(.sl R1), (.int .i64), .bool, (.int .i64)], [⟨.ret, [4], ⟨[(4, .bool false)], [], 1000⟩, [.bool]⟩, ⟨.exit 0, [0, 1, 4], ⟨[(0, .bor none R1 []), (1, .int .i64 0), (4, .bool false)], [], 1000⟩, [(.sl R1), (.int .i64), .bool]⟩], fun (p : List Int × Int × Bool × Int) => f_spec_l1Words.l0 N p.1 p.2.1 p.2.2.1 p.2.2.2⟩
noncomputable abbrev K112 : Cons := [(94, C94)]
noncomputable abbrev L112 : List (Nat × Loops) := [(112, [(2, f_spec_l1Words.l0.c)])]
abbrev Q112 : List (Nat × List (Int × Nat) × Nat) := []
noncomputable abbrev X112 : Nat → Ctx := ctxOf tb K112 L112 Q112
theorem f_spec_l1Words.l0.ok : ∀ n p, (fun (p : List Int × Int × Bool × Int) => f_spec_l1Words.l0 n p.1 p.2.1 p.2.2.1 p.2.2.2) p = iterD (roundOf fs X112 6 112 2 false f_spec_l1Words.l0.c) n p :=
  iter_of (l := fun n => fun (p : List Int × Int × Bool × Int) => f_spec_l1Words.l0 n p.1 p.2.1 p.2.2.1 p.2.2.2) (fun _ => rfl) (fun n p => by kernel_rfl)
theorem E112 : ∀ x, funRun fs X112 6 112 C112 x = C112.fn x := fun x => by kernel_rfl
theorem B112 : ConB Try.prog 112 C112 := ConB.make FS MIX TY (cons := K112) (L := L112) (ptrs := Q112) ⟨S94, trivial⟩ trivial ⟨⟨⟨N, fun p => f_spec_l1Words.l0.ok N p⟩, trivial⟩, trivial⟩ rfl rfl E112
theorem S112 : ConS Try.prog 112 C112 := B112.call rfl
/-! spec.FrameOk: function 71 -/
noncomputable def f_spec_FrameOk (x0 : Int) (x1 : List Int) (x2 : Bool) : Option (Bool) :=
  bif (decide (x0 = (0 : Int))) then
    some (decide ((x1.length : Int) = (0 : Int)))
  else
    (f_spec_l1In x0 0 2).bind fun y59 =>
    bif y59 then
      (f_spec_l1Words x1 4).bind fun y60 =>
      some y60
    else
      some false
noncomputable def C71 : Con := ⟨[(.B, true, [(.int .i64), (.sl R1), .bool])], [(false, [.bool])], [(.int .i64), (.sl R1), .bool], [.bool], fun (p : Int × List Int × Bool) => f_spec_FrameOk p.1 p.2.1 p.2.2⟩
noncomputable abbrev K71 : Cons := [(94, C94), (112, C112)]
noncomputable abbrev L71 : List (Nat × Loops) := []
abbrev Q71 : List (Nat × List (Int × Nat) × Nat) := []
noncomputable abbrev X71 : Nat → Ctx := ctxOf tb K71 L71 Q71
theorem E71 : ∀ x, funRun fs X71 6 71 C71 x = C71.fn x := fun x => by kernel_rfl
theorem B71 : ConB Try.prog 71 C71 := ConB.make FS MIX TY (cons := K71) (L := L71) (ptrs := Q71) ⟨S94, S112, trivial⟩ trivial trivial rfl rfl E71
theorem S71 : ConS Try.prog 71 C71 := B71.call rfl
/-! spec.FrameWrite: function 66 -/
noncomputable def f_spec_FrameWrite (x0 : Int) (x1 : List Int) (x2 : Bool) (x3 : Int) (x4 : Int) : Option (Int × List Int × Bool × Bool) :=
  (f_spec_l3Copy x0 x1 x2).bind fun y61 =>
  (f_spec_FrameOk x0 x1 x2).bind fun y62 =>
  bif (!y62) then
    some (y61.1, y61.2.1, y61.2.2, false)
  else
    bif (!(decide (x0 = (2 : Int)))) then
      some (y61.1, y61.2.1, y61.2.2, false)
    else
      (f_spec_l1In x3 0 3).bind fun y63 =>
      bif (!y63) then
        some (y61.1, y61.2.1, y61.2.2, false)
      else
        (f_spec_l1In x4 0 65535).bind fun y64 =>
        bif (!y64) then
          some (y61.1, y61.2.1, y61.2.2, false)
        else
          bif ((decide ((0 : Int) ≤ x3)) && (decide (x3 < (y61.2.1.length : Int)))) then
          (some ((y61.2.1.set x3.toNat x4) : List Int)).bind fun z65 =>
          some (y61.1, z65, y61.2.2, true)
          else none
noncomputable def C66 : Con := ⟨[(.B, true, [(.int .i64), (.sl R1), .bool]), (.B, false, [(.int .i64)]), (.B, false, [(.int .i64)])], [(true, [(.int .i64), (.sl R1), .bool]), (false, [.bool])], [(.int .i64), (.sl R1), .bool, (.int .i64), (.int .i64)], [(.int .i64), (.sl R1), .bool, .bool], fun (p : Int × List Int × Bool × Int × Int) => f_spec_FrameWrite p.1 p.2.1 p.2.2.1 p.2.2.2.1 p.2.2.2.2⟩
noncomputable abbrev K66 : Cons := [(71, C71), (94, C94), (99, C99)]
noncomputable abbrev L66 : List (Nat × Loops) := []
abbrev Q66 : List (Nat × List (Int × Nat) × Nat) := []
noncomputable abbrev X66 : Nat → Ctx := ctxOf tb K66 L66 Q66
theorem E66 : ∀ x, funRun fs X66 6 66 C66 x = C66.fn x := fun x => by kernel_rfl
theorem B66 : ConB Try.prog 66 C66 := ConB.make FS MIX TY (cons := K66) (L := L66) (ptrs := Q66) ⟨S71, S94, S99, trivial⟩ trivial trivial rfl rfl E66
theorem S66 : ConS Try.prog 66 C66 := B66.call rfl
/-! spec.DrawFrameRead: function 67 -/
noncomputable def f_spec_DrawFrameRead.l0 : Nat → (List Int) → Int → Int → Int → Bool → Option (List Int × Int × Int × Bool)
  | 0, _, _, _, _, _ => none
  | n + 1, p66, p67, p68, p69, p70 =>
    bif (decide (p68 < (p66.length : Int))) then
      bif (decide (p68 < (4000 : Int))) then
        bif ((decide ((0 : Int) ≤ p68)) && (decide (p68 < (p66.length : Int)))) then
        f_spec_DrawFrameRead.l0 n p66 (bitI .and .i64 (IntKind.wrap .i64 ((IntKind.wrap .i64 ((IntKind.wrap .i64 (p67 * (131 : Int))) + (IntKind.wrap .i64 ((p66.getD p68.toNat 0))))) + (7 : Int))) (1073741823 : Int)) (IntKind.wrap .i64 (p68 + (1 : Int))) p69 p70
        else none
      else
        some (p66, p67, p69, p70)
    else
      some (p66, p67, p69, p70)
noncomputable def f_spec_DrawFrameRead (x0 : List Int) : Option (Int × List Int × Bool × Int) :=
  (f_spec_DrawFrameRead.l0 N x0 (IntKind.wrap .i64 ((20404 : Int) + (x0.length : Int))) 0 0 false).bind fun r71 =>
  (f_spec_l3Draw r71.1 0 r71.2.1).bind fun y72 =>
  (f_spec_l1Below r71.1 y72.2.2.2.1 y72.2.2.2.2 6).bind fun y73 =>
  some (y72.1, y72.2.1, y72.2.2.1, (IntKind.wrap .i64 (y73.1 - (1 : Int))))
noncomputable def C67 : Con := ⟨[(.B, false, [(.sl R0)])], [(true, [(.int .i64), (.sl R1), .bool]), (false, [(.int .i64)])], [(.sl R0)], [(.int .i64), (.sl R1), .bool, (.int .i64)], fun (p : List Int) => f_spec_DrawFrameRead p⟩
noncomputable def f_spec_DrawFrameRead.l0.c : LoopCon := ⟨1081, 5, [0, 3, 4], ⟨[(0, .bor none R0 []), (3, .int .i64 0), (4, .int .i64 0)], [(1001, .box [.int .i64 0, .nil (some R1), .bool false])], 1081⟩, [(.sl R0), (.int .i64), (.int .i64), (.int .i64), .bool], [⟨.exit 0, [0, 3], ⟨[(0, .bor none R0 []), (3, .int .i64 0)], [(1001, .box [.int .i64 0, .nil (some R1), .bool false])], 1081⟩, [(.sl R0), (.int .i64), (.int .i64), .bool]⟩], fun (p : List Int × Int × Int × Int × Bool) => f_spec_DrawFrameRead.l0 N p.1 p.2.1 p.2.2.1 p.2.2.2.1 p.2.2.2.2⟩
noncomputable abbrev K67 : Cons := [(119, C119), (124, C124)]
noncomputable abbrev L67 : List (Nat × Loops) := [(117, [(3, f_spec_DrawFrameRead.l0.c)])]
abbrev Q67 : List (Nat × List (Int × Nat) × Nat) := []
noncomputable abbrev X67 : Nat → Ctx := ctxOf tb K67 L67 Q67
theorem f_spec_DrawFrameRead.l0.ok : ∀ n p, (fun (p : List Int × Int × Int × Int × Bool) => f_spec_DrawFrameRead.l0 n p.1 p.2.1 p.2.2.1 p.2.2.2.1 p.2.2.2.2) p = iterD (roundOf fs X67 5 117 3 true f_spec_DrawFrameRead.l0.c) n p :=
  iter_of (l := fun n => fun (p : List Int × Int × Int × Int × Bool) => f_spec_DrawFrameRead.l0 n p.1 p.2.1 p.2.2.1 p.2.2.2.1 p.2.2.2.2) (fun _ => rfl) (fun n p => by kernel_rfl)
theorem E67 : ∀ x, funRun fs X67 6 67 C67 x = C67.fn x := fun x => by kernel_rfl
theorem B67 : ConB Try.prog 67 C67 := ConB.make FS MIX TY (cons := K67) (L := L67) (ptrs := Q67) ⟨S119, S124, trivial⟩ trivial ⟨⟨⟨N, fun p => f_spec_DrawFrameRead.l0.ok N p⟩, trivial⟩, trivial⟩ rfl rfl E67
theorem S67 : ConS Try.prog 67 C67 := B67.call rfl
/-! impl.FrameRead: function 68 -/
noncomputable def f_impl_FrameRead (x0 : Int) (x1 : List Int) (x2 : Bool) (x3 : Int) : Option (Int × Bool) :=
  (f_impl_FrameOk x0 x1 x2).bind fun y74 =>
  bif (!y74) then
    some (0, false)
  else
    (f_impl_from x3 0 (IntKind.wrap .i64 ((x1.length : Int) - (1 : Int)))).bind fun y75 =>
    bif (!y75) then
      some (0, false)
    else
      bif ((decide ((0 : Int) ≤ x3)) && (decide (x3 < (x1.length : Int)))) then
      some ((x1.getD x3.toNat 0), true)
      else none
noncomputable def C68 : Con := ⟨[(.B, true, [(.int .i64), (.sl R1), .bool]), (.B, false, [(.int .i64)])], [(false, [(.int .i64)]), (false, [.bool])], [(.int .i64), (.sl R1), .bool, (.int .i64)], [(.int .i64), .bool], fun (p : Int × List Int × Bool × Int) => f_impl_FrameRead p.1 p.2.1 p.2.2.1 p.2.2.2⟩
noncomputable abbrev K68 : Cons := [(70, C70), (118, C118)]
noncomputable abbrev L68 : List (Nat × Loops) := []
abbrev Q68 : List (Nat × List (Int × Nat) × Nat) := []
noncomputable abbrev X68 : Nat → Ctx := ctxOf tb K68 L68 Q68
theorem E68 : ∀ x, funRun fs X68 6 68 C68 x = C68.fn x := fun x => by kernel_rfl
theorem B68 : ConB Try.prog 68 C68 := ConB.make FS MIX TY (cons := K68) (L := L68) (ptrs := Q68) ⟨S70, S118, trivial⟩ trivial trivial rfl rfl E68
theorem S68 : ConS Try.prog 68 C68 := B68.call rfl
/-! spec.FrameRead: function 69 -/
noncomputable def f_spec_FrameRead (x0 : Int) (x1 : List Int) (x2 : Bool) (x3 : Int) : Option (Int × Bool) :=
  (f_spec_FrameOk x0 x1 x2).bind fun y76 =>
  bif (!y76) then
    some (0, false)
  else
    (f_spec_l1In x3 0 (IntKind.wrap .i64 ((x1.length : Int) - (1 : Int)))).bind fun y77 =>
    bif (!y77) then
      some (0, false)
    else
      bif ((decide ((0 : Int) ≤ x3)) && (decide (x3 < (x1.length : Int)))) then
      some ((x1.getD x3.toNat 0), true)
      else none
noncomputable def C69 : Con := ⟨[(.B, true, [(.int .i64), (.sl R1), .bool]), (.B, false, [(.int .i64)])], [(false, [(.int .i64)]), (false, [.bool])], [(.int .i64), (.sl R1), .bool, (.int .i64)], [(.int .i64), .bool], fun (p : Int × List Int × Bool × Int) => f_spec_FrameRead p.1 p.2.1 p.2.2.1 p.2.2.2⟩
noncomputable abbrev K69 : Cons := [(71, C71), (94, C94)]
noncomputable abbrev L69 : List (Nat × Loops) := []
abbrev Q69 : List (Nat × List (Int × Nat) × Nat) := []
noncomputable abbrev X69 : Nat → Ctx := ctxOf tb K69 L69 Q69
theorem E69 : ∀ x, funRun fs X69 6 69 C69 x = C69.fn x := fun x => by kernel_rfl
theorem B69 : ConB Try.prog 69 C69 := ConB.make FS MIX TY (cons := K69) (L := L69) (ptrs := Q69) ⟨S71, S94, trivial⟩ trivial trivial rfl rfl E69
theorem S69 : ConS Try.prog 69 C69 := B69.call rfl
/-! laws.sameInts: function 72 -/
noncomputable def f_laws_sameInts.l0 : Nat → (List Int) → (List Int) → Bool → Int → Option ((Bool) ⊕ (Bool))
  | 0, _, _, _, _ => none
  | n + 1, p78, p79, p80, p81 =>
    bif (decide (p81 < (p78.length : Int))) then
      bif ((decide ((0 : Int) ≤ p81)) && (decide (p81 < (p78.length : Int)))) then
      bif ((decide ((0 : Int) ≤ p81)) && (decide (p81 < (p79.length : Int)))) then
      bif (!(decide ((p78.getD p81.toNat 0) = (p79.getD p81.toNat 0)))) then
        some (.inl false)
      else
        f_laws_sameInts.l0 n p78 p79 p80 (IntKind.wrap .i64 (p81 + (1 : Int)))
      else none
      else none
    else
      some (.inr p80)
noncomputable def f_laws_sameInts (x0 : List Int) (x1 : List Int) : Option (Bool) :=
  bif (!(decide ((x0.length : Int) = (x1.length : Int)))) then
    some false
  else
    (f_laws_sameInts.l0 N x0 x1 false 0).bind fun r82 =>
    cs r82 (fun a83 =>
      some a83) (fun b84 =>
      some true)
noncomputable def C72 : Con := ⟨[(.B, false, [(.sl R1)]), (.B, false, [(.sl R1)])], [(false, [.bool])], [(.sl R1), (.sl R1)], [.bool], fun (p : List Int × List Int) => f_laws_sameInts p.1 p.2⟩
noncomputable def f_laws_sameInts.l0.c : LoopCon := ⟨1000, 6, [0, 1, 4, 5], ⟨[(0, .bor none R1 []), (1, .bor none R1 []), (4, .bool false), (5, .int .i64 0)], [], 1000⟩, [(.sl R1), (.sl R1), .bool, (.int .i64)], [⟨.ret, [4], ⟨[(4, .bool false)], [], 1000⟩, [.bool]⟩, ⟨.exit 0, [4], ⟨[(4, .bool false)], [], 1000⟩, [.bool]⟩], fun (p : List Int × List Int × Bool × Int) => f_laws_sameInts.l0 N p.1 p.2.1 p.2.2.1 p.2.2.2⟩
noncomputable abbrev K72 : Cons := []
noncomputable abbrev L72 : List (Nat × Loops) := [(72, [(4, f_laws_sameInts.l0.c)])]
abbrev Q72 : List (Nat × List (Int × Nat) × Nat) := []
noncomputable abbrev X72 : Nat → Ctx := ctxOf tb K72 L72 Q72
theorem f_laws_sameInts.l0.ok : ∀ n p, (fun (p : List Int × List Int × Bool × Int) => f_laws_sameInts.l0 n p.1 p.2.1 p.2.2.1 p.2.2.2) p = iterD (roundOf fs X72 6 72 4 false f_laws_sameInts.l0.c) n p :=
  iter_of (l := fun n => fun (p : List Int × List Int × Bool × Int) => f_laws_sameInts.l0 n p.1 p.2.1 p.2.2.1 p.2.2.2) (fun _ => rfl) (fun n p => by kernel_rfl)
theorem E72 : ∀ x, funRun fs X72 6 72 C72 x = C72.fn x := fun x => by kernel_rfl
theorem B72 : ConB Try.prog 72 C72 := ConB.make FS MIX TY (cons := K72) (L := L72) (ptrs := Q72) trivial trivial ⟨⟨⟨N, fun p => f_laws_sameInts.l0.ok N p⟩, trivial⟩, trivial⟩ rfl rfl E72
theorem S72 : ConS Try.prog 72 C72 := B72.call rfl
/-! laws.FnFrames: function 11 -/
noncomputable def f_laws_FnFrames.l0 : Nat → Bool → Int → Int → Int → Int → Bool → Int → Bool → (List Int) → (List Int) → Option ((Bool) ⊕ (Bool × Int × Bool × Int × Bool × List Int × List Int))
  | 0, _, _, _, _, _, _, _, _, _, _ => none
  | n + 1, p95, p96, p97, p98, p99, p100, p101, p102, p103, p104 =>
    bif (decide (p98 < (4 : Int))) then
      (f_impl_FrameRead p101 p104 p102 p98).bind fun y105 =>
      bif (!y105.2) then
        some (.inl false)
      else
        bif (decide (p98 = p96)) then
          bif (!(decide (y105.1 = p97))) then
            some (.inl false)
          else
            bif (!(decide (p98 = p96))) then
              bif ((decide ((0 : Int) ≤ p98)) && (decide (p98 < (p103.length : Int)))) then
              bif (!(decide (y105.1 = (p103.getD p98.toNat 0)))) then
                some (.inl false)
              else
                f_laws_FnFrames.l0 n p95 p96 p97 (IntKind.wrap .i64 (p98 + (1 : Int))) p99 p100 p101 p102 p103 p104
              else none
            else
              f_laws_FnFrames.l0 n p95 p96 p97 (IntKind.wrap .i64 (p98 + (1 : Int))) p99 p100 p101 p102 p103 p104
        else
          bif (!(decide (p98 = p96))) then
            bif ((decide ((0 : Int) ≤ p98)) && (decide (p98 < (p103.length : Int)))) then
            bif (!(decide (y105.1 = (p103.getD p98.toNat 0)))) then
              some (.inl false)
            else
              f_laws_FnFrames.l0 n p95 p96 p97 (IntKind.wrap .i64 (p98 + (1 : Int))) p99 p100 p101 p102 p103 p104
            else none
          else
            f_laws_FnFrames.l0 n p95 p96 p97 (IntKind.wrap .i64 (p98 + (1 : Int))) p99 p100 p101 p102 p103 p104
    else
      some (.inr (p95, p99, p100, p101, p102, p103, p104))
noncomputable def f_laws_FnFrames (x0 : List Int) : Option (Bool) :=
  (f_laws_big x0).bind fun y85 =>
  bif y85 then
    some true
  else
    (f_spec_DrawFrameWrite x0).bind fun y86 =>
    (f_impl_FrameWrite y86.1 y86.2.1 y86.2.2.1 y86.2.2.2.1 y86.2.2.2.2).bind fun y87 =>
    (f_spec_FrameWrite y86.1 y86.2.1 y86.2.2.1 y86.2.2.2.1 y86.2.2.2.2).bind fun y88 =>
    (f_spec_DrawFrameRead x0).bind fun y89 =>
    (f_impl_FrameRead y89.1 y89.2.1 y89.2.2.1 y89.2.2.2).bind fun y90 =>
    (f_spec_FrameRead y89.1 y89.2.1 y89.2.2.1 y89.2.2.2).bind fun y91 =>
    bif (!(y87.2.2.2 == y88.2.2.2)) then
      some false
    else
      bif (!(decide (y90.1 = y91.1))) then
        some false
      else
        bif (!(y90.2 == y91.2)) then
          some false
        else
          (f_impl_FrameOk y86.1 y86.2.1 y86.2.2.1).bind fun y92 =>
          (f_spec_FrameOk y86.1 y86.2.1 y86.2.2.1).bind fun y93 =>
          bif (!(y92 == y93)) then
            some false
          else
            bif (!y87.2.2.2) then
              (f_laws_sameInts y87.2.1 y86.2.1).bind fun y94 =>
              bif y94 then
                some (decide (y87.1 = y86.1))
              else
                some false
            else
              (f_laws_FnFrames.l0 N false y86.2.2.2.1 y86.2.2.2.2 0 y86.1 y86.2.2.1 y87.1 y87.2.2.1 y86.2.1 y87.2.1).bind fun r106 =>
              cs r106 (fun a107 =>
                some a107) (fun b108 =>
                (f_impl_FrameOk b108.2.2.2.1 b108.2.2.2.2.2.2 b108.2.2.2.2.1).bind fun y109 =>
                bif y109 then
                  some (decide (b108.2.1 = (2 : Int)))
                else
                  some false)
noncomputable def C11 : Con := ⟨[(.B, false, [(.sl R0)])], [(false, [.bool])], [(.sl R0)], [.bool], fun (p : List Int) => f_laws_FnFrames p⟩
noncomputable def f_laws_FnFrames.l0.c : LoopCon := ⟨1000, 6, [2, 3, 4, 5, 6, 16], ⟨[(2, .bool false), (3, .ptr 1000 0), (4, .int .i64 0), (5, .int .i64 0), (6, .ptr 1001 0), (16, .int .i64 0)], [(1000, .box [.int .i64 0, .ref 1002 [] none, .bool false]), (1001, .box [.int .i64 0, .ref 1003 [] none, .bool false]), (1002, .row R1 []), (1003, .row R1 [])], 1004⟩, [.bool, (.int .i64), (.int .i64), (.int .i64), (.int .i64), .bool, (.int .i64), .bool, (.sl R1), (.sl R1)], [⟨.ret, [2], ⟨[(2, .bool false)], [], 1000⟩, [.bool]⟩, ⟨.exit 0, [2, 3, 6], ⟨[(2, .bool false), (3, .ptr 1000 0), (6, .ptr 1001 0)], [(1000, .box [.int .i64 0, .ref 1002 [] none, .bool false]), (1001, .box [.int .i64 0, .ref 1003 [] none, .bool false]), (1002, .row R1 []), (1003, .row R1 [])], 1004⟩, [.bool, (.int .i64), .bool, (.int .i64), .bool, (.sl R1), (.sl R1)]⟩], fun (p : Bool × Int × Int × Int × Int × Bool × Int × Bool × List Int × List Int) => f_laws_FnFrames.l0 N p.1 p.2.1 p.2.2.1 p.2.2.2.1 p.2.2.2.2.1 p.2.2.2.2.2.1 p.2.2.2.2.2.2.1 p.2.2.2.2.2.2.2.1 p.2.2.2.2.2.2.2.2.1 p.2.2.2.2.2.2.2.2.2⟩
noncomputable abbrev K11 : Cons := [(53, C53), (64, C64), (65, C65), (66, C66), (67, C67), (68, C68), (69, C69), (70, C70), (71, C71), (72, C72)]
noncomputable abbrev L11 : List (Nat × Loops) := [(11, [(14, f_laws_FnFrames.l0.c)])]
abbrev Q11 : List (Nat × List (Int × Nat) × Nat) := []
noncomputable abbrev X11 : Nat → Ctx := ctxOf tb K11 L11 Q11
theorem f_laws_FnFrames.l0.ok : ∀ n p, (fun (p : Bool × Int × Int × Int × Int × Bool × Int × Bool × List Int × List Int) => f_laws_FnFrames.l0 n p.1 p.2.1 p.2.2.1 p.2.2.2.1 p.2.2.2.2.1 p.2.2.2.2.2.1 p.2.2.2.2.2.2.1 p.2.2.2.2.2.2.2.1 p.2.2.2.2.2.2.2.2.1 p.2.2.2.2.2.2.2.2.2) p = iterD (roundOf fs X11 6 11 14 false f_laws_FnFrames.l0.c) n p :=
  iter_of (l := fun n => fun (p : Bool × Int × Int × Int × Int × Bool × Int × Bool × List Int × List Int) => f_laws_FnFrames.l0 n p.1 p.2.1 p.2.2.1 p.2.2.2.1 p.2.2.2.2.1 p.2.2.2.2.2.1 p.2.2.2.2.2.2.1 p.2.2.2.2.2.2.2.1 p.2.2.2.2.2.2.2.2.1 p.2.2.2.2.2.2.2.2.2) (fun _ => rfl) (fun n p => by kernel_rfl)
theorem E11 : ∀ x, funRun fs X11 6 11 C11 x = C11.fn x := fun x => by kernel_rfl
theorem B11 : ConB Try.prog 11 C11 := ConB.make FS MIX TY (cons := K11) (L := L11) (ptrs := Q11) ⟨S53, S64, S65, S66, S67, S68, S69, S70, S71, S72, trivial⟩ trivial ⟨⟨⟨N, fun p => f_laws_FnFrames.l0.ok N p⟩, trivial⟩, trivial⟩ rfl rfl E11
theorem S11 : ConS Try.prog 11 C11 := B11.call rfl
/-- What is left: the plain law. -/
def Pure : Prop := ∀ x : Tup [(.sl R0)], WfT [(.sl R0)] x → C11.fn x = some (true : Bool)
end
end Go.Abs
