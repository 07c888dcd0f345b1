import Derived.Test.YtgifligfbjnmfaaProg
import Derived.Test.YtgifligfbjnmfaaAbsD
import Derived.KernelRfl
namespace Go.Abs
open Go.Proofs
set_option linter.unusedVariables false
set_option maxRecDepth 100000
noncomputable section
abbrev N : Nat := 1152921504606846976
abbrev R0 : RT := .one (.int .u8)
abbrev R1 : RT := .one (.int .i64)
noncomputable def tb : Tb := [(0, ⟨false, [], [], 0, 0⟩),
  (3, ⟨false, [(.int .i64)], [], 0, 8⟩),
  (4, ⟨false, [.bool], [], 0, 1⟩),
  (5, ⟨false, [(.int .u8)], [], 0, 1⟩),
  (9, ⟨false, [.str], [], 0, 16⟩),
  (22, ⟨false, [(.sl R1)], [], 3, 24⟩),
  (26, ⟨false, [(.sl R0)], [], 5, 24⟩),
  (68, ⟨true, [(.int .i64), (.int .i64), (.int .i64), (.int .i64), (.int .i64)], [(0, 3), (1, 3), (2, 3), (3, 3), (4, 3)], 0, 40⟩),
  (91, ⟨false, [], [], 0, 0⟩),
  (97, ⟨false, [], [], 0, 0⟩),
  (129, ⟨false, [], [], 0, 8⟩),
  (135, ⟨false, [], [], 0, 0⟩),
  (137, ⟨false, [], [], 0, 8⟩),
  (175, ⟨true, [(.sl R0), (.int .i64), (.int .i64)], [(0, 26), (1, 3), (2, 3)], 0, 40⟩),
  (179, ⟨false, [], [], 0, 8⟩)]
noncomputable def fsL : List (Nat × Func) := [(53, Try.f53), (117, Try.f117), (159, Try.f159), (119, Try.f119), (116, Try.f116), (94, Try.f94), (129, Try.f129), (128, Try.f128), (121, Try.f121), (73, Try.f73), (126, Try.f126), (127, Try.f127), (118, Try.f118), (76, Try.f76), (74, Try.f74), (130, Try.f130), (82, Try.f82), (75, Try.f75), (109, Try.f109), (77, Try.f77), (78, Try.f78), (79, Try.f79), (80, Try.f80), (81, Try.f81), (83, Try.f83), (84, Try.f84), (12, Try.f12)]
noncomputable def fs : Nat → Option Func := getF fsL
theorem MIX : Try.prog.follows .mixedOrders = true := by kernel_rfl
theorem TY : tyCheck Try.prog tb = true := by kernel_rfl
theorem CAT : catCheck tb = true := by kernel_rfl
theorem FSP : FsP Try.prog fsL := ⟨Try.func53, Try.func117, Try.func159, Try.func119, Try.func116, Try.func94, Try.func129, Try.func128, Try.func121, Try.func73, Try.func126, Try.func127, Try.func118, Try.func76, Try.func74, Try.func130, Try.func82, Try.func75, Try.func109, Try.func77, Try.func78, Try.func79, Try.func80, Try.func81, Try.func83, Try.func84, Try.func12, trivial⟩
theorem FSC : (fsL.all fun p => fnChk p.2) = true := by kernel_rfl
theorem FS : FsS Try.prog fs := FsS.of FSP FSC
theorem PT127 : PtrS Try.prog 127 [(82, 1), (65, 2), (66, 3)] 4 := PtrS.make FS MIX TY (cons := []) (L := []) (ptrs := []) trivial trivial trivial rfl (fun l => by kernel_rfl)
/-! laws.big: function 53 -/
noncomputable def f_laws_big (x0 : List Int) : Option (Bool) :=
  some (decide ((1048576 : Int) < (x0.length : Int)))
noncomputable def C53 : Con := ⟨[(.B, false, [(.sl R0)])], [(false, [.bool])], [(.sl R0)], [.bool], fun (p : List Int) => f_laws_big p⟩
noncomputable abbrev K53 : Cons := []
noncomputable abbrev L53 : List (Nat × Loops) := []
abbrev Q53 : List (Nat × List (Int × Nat) × Nat) := []
noncomputable abbrev X53 : Nat → Ctx := ctxOf tb K53 L53 Q53
theorem E53 : ∀ x, funRun fs X53 6 53 C53 x = C53.fn x := fun x => by kernel_rfl
theorem B53 : ConB Try.prog 53 C53 := ConB.make FS MIX TY (cons := K53) (L := L53) (ptrs := Q53) trivial trivial trivial rfl rfl E53
theorem S53 : ConS Try.prog 53 C53 := B53.call rfl
/-! spec.l1Byte: function 159 -/
noncomputable def f_spec_l1Byte (x0 : List Int) (x1 : Int) (x2 : Int) : Option (Int × Int × Int) :=
  bif (decide (x1 < (x0.length : Int))) then
    bif ((decide ((0 : Int) ≤ x1)) && (decide (x1 < (x0.length : Int)))) then
    some ((bitI .and .i64 (IntKind.wrap .i64 ((bitI .and .i64 (bitI .xor .i64 (shrI .i64 (IntKind.wrap .i64 ((IntKind.wrap .i64 (x2 * (6364136223846793005 : Int))) + (1442695040888963407 : Int))) (33 : Int)) (shrI .i64 (IntKind.wrap .i64 ((IntKind.wrap .i64 (x2 * (6364136223846793005 : Int))) + (1442695040888963407 : Int))) (45 : Int))) (255 : Int)) + (IntKind.wrap .i64 ((x0.getD x1.toNat 0))))) (255 : Int)), (IntKind.wrap .i64 (x1 + (1 : Int))), (IntKind.wrap .i64 ((IntKind.wrap .i64 (x2 * (6364136223846793005 : Int))) + (1442695040888963407 : Int))))
    else none
  else
    some ((bitI .and .i64 (bitI .xor .i64 (shrI .i64 (IntKind.wrap .i64 ((IntKind.wrap .i64 (x2 * (6364136223846793005 : Int))) + (1442695040888963407 : Int))) (33 : Int)) (shrI .i64 (IntKind.wrap .i64 ((IntKind.wrap .i64 (x2 * (6364136223846793005 : Int))) + (1442695040888963407 : Int))) (45 : Int))) (255 : Int)), x1, (IntKind.wrap .i64 ((IntKind.wrap .i64 (x2 * (6364136223846793005 : Int))) + (1442695040888963407 : Int))))
noncomputable def C159 : Con := ⟨[(.P [false, true, true], false, [(.sl R0), (.int .i64), (.int .i64)])], [(false, [(.int .i64)])], [(.sl R0), (.int .i64), (.int .i64)], [(.int .i64), (.int .i64), (.int .i64)], fun (p : List Int × Int × Int) => f_spec_l1Byte p.1 p.2.1 p.2.2⟩
noncomputable abbrev K159 : Cons := []
noncomputable abbrev L159 : List (Nat × Loops) := []
abbrev Q159 : List (Nat × List (Int × Nat) × Nat) := []
noncomputable abbrev X159 : Nat → Ctx := ctxOf tb K159 L159 Q159
theorem E159 : ∀ x, funG fs X159 6 159 C159 x = C159.fn x := fun x => by kernel_rfl
theorem B159 : ConG Try.prog 159 C159 := ConG.make FS MIX TY (cons := K159) (L := L159) (ptrs := Q159) trivial trivial trivial rfl (by kernel_rfl) E159
theorem S159 : ConS Try.prog 159 C159 := B159.call (by kernel_rfl)
/-! spec.l1Below: function 119 -/
noncomputable def f_spec_l1Below (x0 : List Int) (x1 : Int) (x2 : Int) (x3 : Int) : Option (Int × Int × Int) :=
  bif (decide (x3 ≤ (0 : Int))) then
    some (0, x1, x2)
  else
    bif (decide (x3 ≤ (256 : Int))) then
      (f_spec_l1Byte x0 x1 x2).bind fun y1 =>
      bif (decide (x3 = (0 : Int))) then none else
      some ((Int.tmod y1.1 x3), y1.2.1, y1.2.2)
    else
      (f_spec_l1Byte x0 x1 x2).bind fun y2 =>
      (f_spec_l1Byte x0 y2.2.1 y2.2.2).bind fun y3 =>
      (f_spec_l1Byte x0 y3.2.1 y3.2.2).bind fun y4 =>
      (f_spec_l1Byte x0 y4.2.1 y4.2.2).bind fun y5 =>
      bif (decide (x3 = (0 : Int))) then none else
      some ((Int.tmod (IntKind.wrap .i64 ((IntKind.wrap .i64 ((IntKind.wrap .i64 ((IntKind.wrap .i64 (y2.1 * (16777216 : Int))) + (IntKind.wrap .i64 (y3.1 * (65536 : Int))))) + (IntKind.wrap .i64 (y4.1 * (256 : Int))))) + y5.1)) x3), y5.2.1, y5.2.2)
noncomputable def C119 : Con := ⟨[(.P [false, true, true], false, [(.sl R0), (.int .i64), (.int .i64)]), (.B, false, [(.int .i64)])], [(false, [(.int .i64)])], [(.sl R0), (.int .i64), (.int .i64), (.int .i64)], [(.int .i64), (.int .i64), (.int .i64)], fun (p : List Int × Int × Int × Int) => f_spec_l1Below p.1 p.2.1 p.2.2.1 p.2.2.2⟩
noncomputable abbrev K119 : Cons := [(159, C159)]
noncomputable abbrev L119 : List (Nat × Loops) := []
abbrev Q119 : List (Nat × List (Int × Nat) × Nat) := []
noncomputable abbrev X119 : Nat → Ctx := ctxOf tb K119 L119 Q119
theorem E119 : ∀ x, funG fs X119 6 119 C119 x = C119.fn x := fun x => by kernel_rfl
theorem B119 : ConG Try.prog 119 C119 := ConG.make FS MIX TY (cons := K119) (L := L119) (ptrs := Q119) ⟨S159, trivial⟩ trivial trivial rfl (by kernel_rfl) E119
theorem S119 : ConS Try.prog 119 C119 := B119.call (by kernel_rfl)
/-! spec.l1PickInt: function 116 -/
noncomputable def f_spec_l1PickInt (x0 : List Int) (x1 : Int) (x2 : Int) (x3 : List Int) : Option (Int × Int × Int) :=
  (f_spec_l1Below x0 x1 x2 (x3.length : Int)).bind fun y6 =>
  bif ((decide ((0 : Int) ≤ y6.1)) && (decide (y6.1 < (x3.length : Int)))) then
  some ((x3.getD y6.1.toNat 0), y6.2.1, y6.2.2)
  else none
noncomputable def C116 : Con := ⟨[(.P [false, true, true], false, [(.sl R0), (.int .i64), (.int .i64)]), (.B, false, [(.sl R1)])], [(false, [(.int .i64)])], [(.sl R0), (.int .i64), (.int .i64), (.sl R1)], [(.int .i64), (.int .i64), (.int .i64)], fun (p : List Int × Int × Int × List Int) => f_spec_l1PickInt p.1 p.2.1 p.2.2.1 p.2.2.2⟩
noncomputable abbrev K116 : Cons := [(119, C119)]
noncomputable abbrev L116 : List (Nat × Loops) := []
abbrev Q116 : List (Nat × List (Int × Nat) × Nat) := []
noncomputable abbrev X116 : Nat → Ctx := ctxOf tb K116 L116 Q116
theorem E116 : ∀ x, funG fs X116 6 116 C116 x = C116.fn x := fun x => by kernel_rfl
theorem B116 : ConG Try.prog 116 C116 := ConG.make FS MIX TY (cons := K116) (L := L116) (ptrs := Q116) ⟨S119, trivial⟩ trivial trivial rfl (by kernel_rfl) E116
theorem S116 : ConS Try.prog 116 C116 := B116.call (by kernel_rfl)
/-! spec.l1In: function 94 -/
noncomputable def f_spec_l1In (x0 : Int) (x1 : Int) (x2 : Int) : Option (Bool) :=
  bif (decide (x1 ≤ x0)) then
    some (decide (x0 ≤ x2))
  else
    some false
noncomputable def C94 : Con := ⟨[(.B, false, [(.int .i64)]), (.B, false, [(.int .i64)]), (.B, false, [(.int .i64)])], [(false, [.bool])], [(.int .i64), (.int .i64), (.int .i64)], [.bool], fun (p : Int × Int × Int) => f_spec_l1In p.1 p.2.1 p.2.2⟩
noncomputable abbrev K94 : Cons := []
noncomputable abbrev L94 : List (Nat × Loops) := []
abbrev Q94 : List (Nat × List (Int × Nat) × Nat) := []
noncomputable abbrev X94 : Nat → Ctx := ctxOf tb K94 L94 Q94
theorem E94 : ∀ x, funRun fs X94 6 94 C94 x = C94.fn x := fun x => by kernel_rfl
theorem B94 : ConB Try.prog 94 C94 := ConB.make FS MIX TY (cons := K94) (L := L94) (ptrs := Q94) trivial trivial trivial rfl rfl E94
theorem S94 : ConS Try.prog 94 C94 := B94.call rfl
/-! spec.l8Has: function 129 -/
noncomputable def f_spec_l8Has (x0 : Int) : Option (Int) :=
  (f_spec_l1In x0 1 10).bind fun y7 =>
  bif (!y7) then
    some 0
  else
    bif ((decide ((0 : Int) ≤ x0)) && (decide (x0 < (([0, 9, 7, 11, 11, 14, 15, 10, 8, 0, 7] : List Int).length : Int)))) then
    some (([0, 9, 7, 11, 11, 14, 15, 10, 8, 0, 7] : List Int).getD x0.toNat 0)
    else none
noncomputable def C129 : Con := ⟨[(.B, false, [(.int .i64)])], [(false, [(.int .i64)])], [(.int .i64)], [(.int .i64)], fun (p : Int) => f_spec_l8Has p⟩
noncomputable abbrev K129 : Cons := [(94, C94)]
noncomputable abbrev L129 : List (Nat × Loops) := []
abbrev Q129 : List (Nat × List (Int × Nat) × Nat) := []
noncomputable abbrev X129 : Nat → Ctx := ctxOf tb K129 L129 Q129
theorem E129 : ∀ x, funRun fs X129 6 129 C129 x = C129.fn x := fun x => by kernel_rfl
theorem B129 : ConB Try.prog 129 C129 := ConB.make FS MIX TY (cons := K129) (L := L129) (ptrs := Q129) ⟨S94, trivial⟩ trivial trivial rfl rfl E129
theorem S129 : ConS Try.prog 129 C129 := B129.call rfl
/-! spec.l8DrawIns: function 128 -/
noncomputable def f_spec_l8DrawIns (x0 : List Int) (x1 : Int) (x2 : Int) : Option (Int × Int × Int × Int × Int × Int × Int) :=
  (f_spec_l1PickInt x0 x1 x2 ([1, 1, 2, 3, 3, 4, 4, 5, 5, 5, 6, 6, 7, 8, 9, 10] : List Int)).bind fun y8 =>
  (f_spec_l8Has y8.1).bind fun y9 =>
  bif (!(decide ((bitI .and .i64 y9 (1 : Int)) = (0 : Int)))) then
    (f_spec_l1Below x0 y8.2.1 y8.2.2 4).bind fun y10 =>
    bif (!(decide ((bitI .and .i64 y9 (2 : Int)) = (0 : Int)))) then
      (f_spec_l1Below x0 y10.2.1 y10.2.2 4).bind fun y11 =>
      bif (!(decide ((bitI .and .i64 y9 (4 : Int)) = (0 : Int)))) then
        (f_spec_l1Below x0 y11.2.1 y11.2.2 4).bind fun y12 =>
        bif (!(decide ((bitI .and .i64 y9 (8 : Int)) = (0 : Int)))) then
          (f_spec_l1PickInt x0 y12.2.1 y12.2.2 ([0, 1, 2, 4, 8, 9, 12, 20, 23] : List Int)).bind fun y13 =>
          some (y8.1, y10.1, y11.1, y12.1, y13.1, y13.2.1, y13.2.2)
        else
          some (y8.1, y10.1, y11.1, y12.1, 0, y12.2.1, y12.2.2)
      else
        bif (!(decide ((bitI .and .i64 y9 (8 : Int)) = (0 : Int)))) then
          (f_spec_l1PickInt x0 y11.2.1 y11.2.2 ([0, 1, 2, 4, 8, 9, 12, 20, 23] : List Int)).bind fun y14 =>
          some (y8.1, y10.1, y11.1, 0, y14.1, y14.2.1, y14.2.2)
        else
          some (y8.1, y10.1, y11.1, 0, 0, y11.2.1, y11.2.2)
    else
      bif (!(decide ((bitI .and .i64 y9 (4 : Int)) = (0 : Int)))) then
        (f_spec_l1Below x0 y10.2.1 y10.2.2 4).bind fun y15 =>
        bif (!(decide ((bitI .and .i64 y9 (8 : Int)) = (0 : Int)))) then
          (f_spec_l1PickInt x0 y15.2.1 y15.2.2 ([0, 1, 2, 4, 8, 9, 12, 20, 23] : List Int)).bind fun y16 =>
          some (y8.1, y10.1, 0, y15.1, y16.1, y16.2.1, y16.2.2)
        else
          some (y8.1, y10.1, 0, y15.1, 0, y15.2.1, y15.2.2)
      else
        bif (!(decide ((bitI .and .i64 y9 (8 : Int)) = (0 : Int)))) then
          (f_spec_l1PickInt x0 y10.2.1 y10.2.2 ([0, 1, 2, 4, 8, 9, 12, 20, 23] : List Int)).bind fun y17 =>
          some (y8.1, y10.1, 0, 0, y17.1, y17.2.1, y17.2.2)
        else
          some (y8.1, y10.1, 0, 0, 0, y10.2.1, y10.2.2)
  else
    bif (!(decide ((bitI .and .i64 y9 (2 : Int)) = (0 : Int)))) then
      (f_spec_l1Below x0 y8.2.1 y8.2.2 4).bind fun y18 =>
      bif (!(decide ((bitI .and .i64 y9 (4 : Int)) = (0 : Int)))) then
        (f_spec_l1Below x0 y18.2.1 y18.2.2 4).bind fun y19 =>
        bif (!(decide ((bitI .and .i64 y9 (8 : Int)) = (0 : Int)))) then
          (f_spec_l1PickInt x0 y19.2.1 y19.2.2 ([0, 1, 2, 4, 8, 9, 12, 20, 23] : List Int)).bind fun y20 =>
          some (y8.1, 0, y18.1, y19.1, y20.1, y20.2.1, y20.2.2)
        else
          some (y8.1, 0, y18.1, y19.1, 0, y19.2.1, y19.2.2)
      else
        bif (!(decide ((bitI .and .i64 y9 (8 : Int)) = (0 : Int)))) then
          (f_spec_l1PickInt x0 y18.2.1 y18.2.2 ([0, 1, 2, 4, 8, 9, 12, 20, 23] : List Int)).bind fun y21 =>
          some (y8.1, 0, y18.1, 0, y21.1, y21.2.1, y21.2.2)
        else
          some (y8.1, 0, y18.1, 0, 0, y18.2.1, y18.2.2)
    else
      bif (!(decide ((bitI .and .i64 y9 (4 : Int)) = (0 : Int)))) then
        (f_spec_l1Below x0 y8.2.1 y8.2.2 4).bind fun y22 =>
        bif (!(decide ((bitI .and .i64 y9 (8 : Int)) = (0 : Int)))) then
          (f_spec_l1PickInt x0 y22.2.1 y22.2.2 ([0, 1, 2, 4, 8, 9, 12, 20, 23] : List Int)).bind fun y23 =>
          some (y8.1, 0, 0, y22.1, y23.1, y23.2.1, y23.2.2)
        else
          some (y8.1, 0, 0, y22.1, 0, y22.2.1, y22.2.2)
      else
        bif (!(decide ((bitI .and .i64 y9 (8 : Int)) = (0 : Int)))) then
          (f_spec_l1PickInt x0 y8.2.1 y8.2.2 ([0, 1, 2, 4, 8, 9, 12, 20, 23] : List Int)).bind fun y24 =>
          some (y8.1, 0, 0, 0, y24.1, y24.2.1, y24.2.2)
        else
          some (y8.1, 0, 0, 0, 0, y8.2.1, y8.2.2)
noncomputable def C128 : Con := ⟨[(.P [false, true, true], false, [(.sl R0), (.int .i64), (.int .i64)])], [(true, [(.int .i64), (.int .i64), (.int .i64), (.int .i64), (.int .i64)])], [(.sl R0), (.int .i64), (.int .i64)], [(.int .i64), (.int .i64), (.int .i64), (.int .i64), (.int .i64), (.int .i64), (.int .i64)], fun (p : List Int × Int × Int) => f_spec_l8DrawIns p.1 p.2.1 p.2.2⟩
noncomputable abbrev K128 : Cons := [(116, C116), (119, C119), (129, C129)]
noncomputable abbrev L128 : List (Nat × Loops) := []
abbrev Q128 : List (Nat × List (Int × Nat) × Nat) := []
noncomputable abbrev X128 : Nat → Ctx := ctxOf tb K128 L128 Q128
theorem E128 : ∀ x, funG fs X128 6 128 C128 x = C128.fn x := fun x => by kernel_rfl
theorem B128 : ConG Try.prog 128 C128 := ConG.make FS MIX TY (cons := K128) (L := L128) (ptrs := Q128) ⟨S116, S119, S129, trivial⟩ trivial trivial rfl (by kernel_rfl) E128
theorem S128 : ConS Try.prog 128 C128 := B128.call (by kernel_rfl)
/-! spec.l8DrawOne: function 121 -/
noncomputable def f_spec_l8DrawOne.l0 : Nat → (List Int) → Int → Int → Int → Int → Int → Int → Int → Option (List Int × Int × Int × Int × Int × Int × Int)
  | 0, _, _, _, _, _, _, _, _ => none
  | n + 1, p25, p26, p27, p28, p29, p30, p31, p32 =>
    bif (decide (p27 < (p25.length : Int))) then
      bif (decide (p27 < (4000 : Int))) then
        bif ((decide ((0 : Int) ≤ p27)) && (decide (p27 < (p25.length : Int)))) then
        f_spec_l8DrawOne.l0 n p25 (bitI .and .i64 (IntKind.wrap .i64 ((IntKind.wrap .i64 ((IntKind.wrap .i64 (p26 * (131 : Int))) + (IntKind.wrap .i64 ((p25.getD p27.toNat 0))))) + (7 : Int))) (1073741823 : Int)) (IntKind.wrap .i64 (p27 + (1 : Int))) p28 p29 p30 p31 p32
        else none
      else
        some (p25, p26, p28, p29, p30, p31, p32)
    else
      some (p25, p26, p28, p29, p30, p31, p32)
noncomputable def f_spec_l8DrawOne (x0 : List Int) : Option (Int × Int × Int × Int × Int) :=
  (f_spec_l8DrawOne.l0 N x0 (IntKind.wrap .i64 ((20404 : Int) + (x0.length : Int))) 0 0 0 0 0 0).bind fun r33 =>
  (f_spec_l8DrawIns r33.1 0 r33.2.1).bind fun y34 =>
  (f_spec_l1Below r33.1 y34.2.2.2.2.2.1 y34.2.2.2.2.2.2 8).bind fun y35 =>
  bif (decide (y35.1 = (0 : Int))) then
    (f_spec_l1Below r33.1 y35.2.1 y35.2.2 13).bind fun y36 =>
    some ((IntKind.wrap .i64 (y36.1 - (1 : Int))), y34.2.1, y34.2.2.1, y34.2.2.2.1, y34.2.2.2.2.1)
  else
    bif (decide (y35.1 = (1 : Int))) then
      (f_spec_l1PickInt r33.1 y35.2.1 y35.2.2 ([-1, 3, 4] : List Int)).bind fun y37 =>
      some (y34.1, y37.1, y34.2.2.1, y34.2.2.2.1, y34.2.2.2.2.1)
    else
      bif (decide (y35.1 = (2 : Int))) then
        (f_spec_l1PickInt r33.1 y35.2.1 y35.2.2 ([-1, 63, 64] : List Int)).bind fun y38 =>
        some (y34.1, y34.2.1, y34.2.2.1, y34.2.2.2.1, y38.1)
      else
        some (y34.1, y34.2.1, y34.2.2.1, y34.2.2.2.1, y34.2.2.2.2.1)
noncomputable def C121 : Con := ⟨[(.B, false, [(.sl R0)])], [(true, [(.int .i64), (.int .i64), (.int .i64), (.int .i64), (.int .i64)])], [(.sl R0)], [(.int .i64), (.int .i64), (.int .i64), (.int .i64), (.int .i64)], fun (p : List Int) => f_spec_l8DrawOne p⟩
noncomputable def f_spec_l8DrawOne.l0.c : LoopCon := ⟨1065, 5, [0, 3, 4], ⟨[(0, .bor none R0 []), (3, .int .i64 0), (4, .int .i64 0)], [(1001, .box [.int .i64 0, .int .i64 0, .int .i64 0, .int .i64 0, .int .i64 0])], 1065⟩, [(.sl R0), (.int .i64), (.int .i64), (.int .i64), (.int .i64), (.int .i64), (.int .i64), (.int .i64)], [⟨.exit 0, [0, 3], ⟨[(0, .bor none R0 []), (3, .int .i64 0)], [(1001, .box [.int .i64 0, .int .i64 0, .int .i64 0, .int .i64 0, .int .i64 0])], 1065⟩, [(.sl R0), (.int .i64), (.int .i64), (.int .i64), (.int .i64), (.int .i64), (.int .i64)]⟩], fun (p : List Int × Int × Int × Int × Int × Int × Int × Int) => f_spec_l8DrawOne.l0 N p.1 p.2.1 p.2.2.1 p.2.2.2.1 p.2.2.2.2.1 p.2.2.2.2.2.1 p.2.2.2.2.2.2.1 p.2.2.2.2.2.2.2⟩
noncomputable abbrev K121 : Cons := [(116, C116), (119, C119), (128, C128)]
noncomputable abbrev L121 : List (Nat × Loops) := [(117, [(3, f_spec_l8DrawOne.l0.c)])]
abbrev Q121 : List (Nat × List (Int × Nat) × Nat) := []
noncomputable abbrev X121 : Nat → Ctx := ctxOf tb K121 L121 Q121
theorem f_spec_l8DrawOne.l0.ok : ∀ n p, (fun (p : List Int × Int × Int × Int × Int × Int × Int × Int) => f_spec_l8DrawOne.l0 n p.1 p.2.1 p.2.2.1 p.2.2.2.1 p.2.2.2.2.1 p.2.2.2.2.2.1 p.2.2.2.2.2.2.1 p.2.2.2.2.2.2.2) p = iterD (roundOf fs X121 5 117 3 true f_spec_l8DrawOne.l0.c) n p :=
  iter_of (l := fun n => fun (p : List Int × Int × Int × Int × Int × Int × Int × Int) => f_spec_l8DrawOne.l0 n p.1 p.2.1 p.2.2.1 p.2.2.2.1 p.2.2.2.2.1 p.2.2.2.2.2.1 p.2.2.2.2.2.2.1 p.2.2.2.2.2.2.2) (fun _ => rfl) (fun n p => by kernel_rfl)
theorem E121 : ∀ x, funRun fs X121 6 121 C121 x = C121.fn x := fun x => by kernel_rfl
theorem B121 : ConB Try.prog 121 C121 := ConB.make FS MIX TY (cons := K121) (L := L121) (ptrs := Q121) ⟨S116, S119, S128, trivial⟩ trivial ⟨⟨⟨N, fun p => f_spec_l8DrawOne.l0.ok N p⟩, trivial⟩, trivial⟩ rfl rfl E121
theorem S121 : ConS Try.prog 121 C121 := B121.call rfl
/-! spec.DrawCode: function 73 -/
noncomputable def f_spec_DrawCode (x0 : List Int) : Option (Int × Int × Int × Int × Int) :=
  (f_spec_l8DrawOne x0).bind fun y39 =>
  some (y39.1, y39.2.1, y39.2.2.1, y39.2.2.2.1, y39.2.2.2.2)
noncomputable def C73 : Con := ⟨[(.B, false, [(.sl R0)])], [(true, [(.int .i64), (.int .i64), (.int .i64), (.int .i64), (.int .i64)])], [(.sl R0)], [(.int .i64), (.int .i64), (.int .i64), (.int .i64), (.int .i64)], fun (p : List Int) => f_spec_DrawCode p⟩
noncomputable abbrev K73 : Cons := [(121, C121)]
noncomputable abbrev L73 : List (Nat × Loops) := []
abbrev Q73 : List (Nat × List (Int × Nat) × Nat) := []
noncomputable abbrev X73 : Nat → Ctx := ctxOf tb K73 L73 Q73
theorem E73 : ∀ x, funRun fs X73 6 73 C73 x = C73.fn x := fun x => by kernel_rfl
theorem B73 : ConB Try.prog 73 C73 := ConB.make FS MIX TY (cons := K73) (L := L73) (ptrs := Q73) ⟨S121, trivial⟩ trivial trivial rfl rfl E73
theorem S73 : ConS Try.prog 73 C73 := B73.call rfl
/-! impl.form: function 126 -/
noncomputable def f_impl_form (x0 : Int) : Option (ByteArray × Bool) :=
  bif (decide (x0 = (1 : Int))) then
    some ((⟨#[82, 78]⟩ : ByteArray), true)
  else
    bif (decide (x0 = (2 : Int))) then
      some ((⟨#[82, 65, 66]⟩ : ByteArray), true)
    else
      bif (decide (x0 = (10 : Int))) then
        some ((⟨#[82, 65, 66]⟩ : ByteArray), true)
      else
        bif (decide (x0 = (3 : Int))) then
          some ((⟨#[82, 65, 78]⟩ : ByteArray), true)
        else
          bif (decide (x0 = (4 : Int))) then
            some ((⟨#[82, 65, 78]⟩ : ByteArray), true)
          else
            bif (decide (x0 = (5 : Int))) then
              some ((⟨#[65, 66, 78]⟩ : ByteArray), true)
            else
              bif (decide (x0 = (6 : Int))) then
                some ((⟨#[82, 65, 66, 78]⟩ : ByteArray), true)
              else
                bif (decide (x0 = (7 : Int))) then
                  some ((⟨#[65, 78]⟩ : ByteArray), true)
                else
                  bif (decide (x0 = (8 : Int))) then
                    some ((⟨#[78]⟩ : ByteArray), true)
                  else
                    bif (decide (x0 = (9 : Int))) then
                      some ((⟨#[]⟩ : ByteArray), true)
                    else
                      some ((⟨#[]⟩ : ByteArray), false)
noncomputable def C126 : Con := ⟨[(.B, false, [(.int .i64)])], [(false, [.str]), (false, [.bool])], [(.int .i64)], [.str, .bool], fun (p : Int) => f_impl_form p⟩
noncomputable abbrev K126 : Cons := []
noncomputable abbrev L126 : List (Nat × Loops) := []
abbrev Q126 : List (Nat × List (Int × Nat) × Nat) := []
noncomputable abbrev X126 : Nat → Ctx := ctxOf tb K126 L126 Q126
theorem E126 : ∀ x, funRun fs X126 6 126 C126 x = C126.fn x := fun x => by kernel_rfl
theorem B126 : ConB Try.prog 126 C126 := ConB.make FS MIX TY (cons := K126) (L := L126) (ptrs := Q126) trivial trivial trivial rfl rfl E126
theorem S126 : ConS Try.prog 126 C126 := B126.call rfl
/-! impl.from: function 118 -/
noncomputable def f_impl_from (x0 : Int) (x1 : Int) (x2 : Int) : Option (Bool) :=
  bif (decide (x1 ≤ x0)) then
    some (decide (x0 ≤ x2))
  else
    some false
noncomputable def C118 : Con := ⟨[(.B, false, [(.int .i64)]), (.B, false, [(.int .i64)]), (.B, false, [(.int .i64)])], [(false, [.bool])], [(.int .i64), (.int .i64), (.int .i64)], [.bool], fun (p : Int × Int × Int) => f_impl_from p.1 p.2.1 p.2.2⟩
noncomputable abbrev K118 : Cons := []
noncomputable abbrev L118 : List (Nat × Loops) := []
abbrev Q118 : List (Nat × List (Int × Nat) × Nat) := []
noncomputable abbrev X118 : Nat → Ctx := ctxOf tb K118 L118 Q118
theorem E118 : ∀ x, funRun fs X118 6 118 C118 x = C118.fn x := fun x => by kernel_rfl
theorem B118 : ConB Try.prog 118 C118 := ConB.make FS MIX TY (cons := K118) (L := L118) (ptrs := Q118) trivial trivial trivial rfl rfl E118
theorem S118 : ConS Try.prog 118 C118 := B118.call rfl
/-! impl.InsOk: function 76 -/
noncomputable def f_impl_InsOk.l0 : Nat → Bool → ByteArray → Bool → Int → Int → Int → Int → Int → Int → Int → Int → Int → Int → Int → Int → Option (Bool × Bool × Int × Int × Int × Int × Int × Int × Int × Int × Int × Int)
  | 0, _, _, _, _, _, _, _, _, _, _, _, _, _, _, _ => none
  | n + 1, p41, p42, p43, p44, p45, p46, p47, p48, p49, p50, p51, p52, p53, p54, p55 =>
    bif (decide (p45 < p44)) then
      bif ((decide ((0 : Int) ≤ p45)) && (decide (p45 < (p42.size : Int)))) then
      bif (decide (((p42.data.getD p45.toNat 0).toNat : Int) = (82 : Int))) then
        bif ((decide ((0 : Int) ≤ p45)) && (decide (p45 < (p42.size : Int)))) then
        bif (decide (((p42.data.getD p45.toNat 0).toNat : Int) = (82 : Int))) then
          f_impl_InsOk.l0 n p41 p42 p43 p44 (IntKind.wrap .i64 (p45 + (1 : Int))) p46 p47 p48 p49 p50 p51 p47 p53 p54 p55
        else
          bif (decide (((p42.data.getD p45.toNat 0).toNat : Int) = (65 : Int))) then
            f_impl_InsOk.l0 n p41 p42 p43 p44 (IntKind.wrap .i64 (p45 + (1 : Int))) p46 p47 p48 p49 p50 p51 p48 p53 p54 p55
          else
            bif (decide (((p42.data.getD p45.toNat 0).toNat : Int) = (66 : Int))) then
              f_impl_InsOk.l0 n p41 p42 p43 p44 (IntKind.wrap .i64 (p45 + (1 : Int))) p46 p47 p48 p49 p50 p51 p49 p53 p54 p55
            else
              f_impl_InsOk.l0 n p41 p42 p43 p44 (IntKind.wrap .i64 (p45 + (1 : Int))) p46 p47 p48 p49 p50 p51 p50 p53 p54 p55
        else none
      else
        bif (decide (((p42.data.getD p45.toNat 0).toNat : Int) = (65 : Int))) then
          bif ((decide ((0 : Int) ≤ p45)) && (decide (p45 < (p42.size : Int)))) then
          bif (decide (((p42.data.getD p45.toNat 0).toNat : Int) = (82 : Int))) then
            f_impl_InsOk.l0 n p41 p42 p43 p44 (IntKind.wrap .i64 (p45 + (1 : Int))) p46 p47 p48 p49 p50 p51 p52 p47 p54 p55
          else
            bif (decide (((p42.data.getD p45.toNat 0).toNat : Int) = (65 : Int))) then
              f_impl_InsOk.l0 n p41 p42 p43 p44 (IntKind.wrap .i64 (p45 + (1 : Int))) p46 p47 p48 p49 p50 p51 p52 p48 p54 p55
            else
              bif (decide (((p42.data.getD p45.toNat 0).toNat : Int) = (66 : Int))) then
                f_impl_InsOk.l0 n p41 p42 p43 p44 (IntKind.wrap .i64 (p45 + (1 : Int))) p46 p47 p48 p49 p50 p51 p52 p49 p54 p55
              else
                f_impl_InsOk.l0 n p41 p42 p43 p44 (IntKind.wrap .i64 (p45 + (1 : Int))) p46 p47 p48 p49 p50 p51 p52 p50 p54 p55
          else none
        else
          bif (decide (((p42.data.getD p45.toNat 0).toNat : Int) = (66 : Int))) then
            bif ((decide ((0 : Int) ≤ p45)) && (decide (p45 < (p42.size : Int)))) then
            bif (decide (((p42.data.getD p45.toNat 0).toNat : Int) = (82 : Int))) then
              f_impl_InsOk.l0 n p41 p42 p43 p44 (IntKind.wrap .i64 (p45 + (1 : Int))) p46 p47 p48 p49 p50 p51 p52 p53 p47 p55
            else
              bif (decide (((p42.data.getD p45.toNat 0).toNat : Int) = (65 : Int))) then
                f_impl_InsOk.l0 n p41 p42 p43 p44 (IntKind.wrap .i64 (p45 + (1 : Int))) p46 p47 p48 p49 p50 p51 p52 p53 p48 p55
              else
                bif (decide (((p42.data.getD p45.toNat 0).toNat : Int) = (66 : Int))) then
                  f_impl_InsOk.l0 n p41 p42 p43 p44 (IntKind.wrap .i64 (p45 + (1 : Int))) p46 p47 p48 p49 p50 p51 p52 p53 p49 p55
                else
                  f_impl_InsOk.l0 n p41 p42 p43 p44 (IntKind.wrap .i64 (p45 + (1 : Int))) p46 p47 p48 p49 p50 p51 p52 p53 p50 p55
            else none
          else
            bif ((decide ((0 : Int) ≤ p45)) && (decide (p45 < (p42.size : Int)))) then
            bif (decide (((p42.data.getD p45.toNat 0).toNat : Int) = (82 : Int))) then
              f_impl_InsOk.l0 n p41 p42 p43 p44 (IntKind.wrap .i64 (p45 + (1 : Int))) p46 p47 p48 p49 p50 p51 p52 p53 p54 p47
            else
              bif (decide (((p42.data.getD p45.toNat 0).toNat : Int) = (65 : Int))) then
                f_impl_InsOk.l0 n p41 p42 p43 p44 (IntKind.wrap .i64 (p45 + (1 : Int))) p46 p47 p48 p49 p50 p51 p52 p53 p54 p48
              else
                bif (decide (((p42.data.getD p45.toNat 0).toNat : Int) = (66 : Int))) then
                  f_impl_InsOk.l0 n p41 p42 p43 p44 (IntKind.wrap .i64 (p45 + (1 : Int))) p46 p47 p48 p49 p50 p51 p52 p53 p54 p49
                else
                  f_impl_InsOk.l0 n p41 p42 p43 p44 (IntKind.wrap .i64 (p45 + (1 : Int))) p46 p47 p48 p49 p50 p51 p52 p53 p54 p50
            else none
      else none
    else
      some (p41, p43, p46, p47, p48, p49, p50, p51, p52, p53, p54, p55)
noncomputable def f_impl_InsOk (x0 : Int) (x1 : Int) (x2 : Int) (x3 : Int) (x4 : Int) : Option (Bool) :=
  (f_impl_form x0).bind fun y40 =>
  (f_impl_InsOk.l0 N false y40.1 y40.2 (y40.1.size : Int) 0 x0 x1 x2 x3 x4 x0 0 0 0 0).bind fun r56 =>
  bif r56.2.1 then
    bif ((decide (r56.2.2.2.2.2.2.2.1 = r56.2.2.1)) && ((decide (r56.2.2.2.2.2.2.2.2.1 = r56.2.2.2.1)) && ((decide (r56.2.2.2.2.2.2.2.2.2.1 = r56.2.2.2.2.1)) && ((decide (r56.2.2.2.2.2.2.2.2.2.2.1 = r56.2.2.2.2.2.1)) && (decide (r56.2.2.2.2.2.2.2.2.2.2.2 = r56.2.2.2.2.2.2.1)))))) then
      (f_impl_from r56.2.2.2.1 0 3).bind fun y57 =>
      bif y57 then
        (f_impl_from r56.2.2.2.2.1 0 3).bind fun y58 =>
        bif y58 then
          (f_impl_from r56.2.2.2.2.2.1 0 3).bind fun y59 =>
          bif y59 then
            (f_impl_from r56.2.2.2.2.2.2.1 0 63).bind fun y60 =>
            some y60
          else
            some false
        else
          some false
      else
        some false
    else
      some false
  else
    some false
noncomputable def C76 : Con := ⟨[(.B, true, [(.int .i64), (.int .i64), (.int .i64), (.int .i64), (.int .i64)])], [(false, [.bool])], [(.int .i64), (.int .i64), (.int .i64), (.int .i64), (.int .i64)], [.bool], fun (p : Int × Int × Int × Int × Int) => f_impl_InsOk p.1 p.2.1 p.2.2.1 p.2.2.2.1 p.2.2.2.2⟩
noncomputable def f_impl_InsOk.l0.c : LoopCon := ⟨1000, 6, [1, 2, 3, 4, 5, 17, 18], ⟨[(1, .ptr 1000 0), (2, .bool false), (3, .str ⟨#[]⟩), (4, .bool false), (5, .ptr 1001 0), (17, .int .i64 0), (18, .int .i64 0)], [(1000, .box [.int .i64 0, .int .i64 0, .int .i64 0, .int .i64 0, .int .i64 0]), (1001, .box [.int .i64 0, .int .i64 0, .int .i64 0, .int .i64 0, .int .i64 0])], 1002⟩, [.bool, .str, .bool, (.int .i64), (.int .i64), (.int .i64), (.int .i64), (.int .i64), (.int .i64), (.int .i64), (.int .i64), (.int .i64), (.int .i64), (.int .i64), (.int .i64)], [⟨.exit 0, [1, 2, 4, 5], ⟨[(1, .ptr 1000 0), (2, .bool false), (4, .bool false), (5, .ptr 1001 0)], [(1000, .box [.int .i64 0, .int .i64 0, .int .i64 0, .int .i64 0, .int .i64 0]), (1001, .box [.int .i64 0, .int .i64 0, .int .i64 0, .int .i64 0, .int .i64 0])], 1002⟩, [.bool, .bool, (.int .i64), (.int .i64), (.int .i64), (.int .i64), (.int .i64), (.int .i64), (.int .i64), (.int .i64), (.int .i64), (.int .i64)]⟩], fun (p : Bool × ByteArray × Bool × Int × Int × Int × Int × Int × Int × Int × Int × Int × Int × Int × Int) => f_impl_InsOk.l0 N p.1 p.2.1 p.2.2.1 p.2.2.2.1 p.2.2.2.2.1 p.2.2.2.2.2.1 p.2.2.2.2.2.2.1 p.2.2.2.2.2.2.2.1 p.2.2.2.2.2.2.2.2.1 p.2.2.2.2.2.2.2.2.2.1 p.2.2.2.2.2.2.2.2.2.2.1 p.2.2.2.2.2.2.2.2.2.2.2.1 p.2.2.2.2.2.2.2.2.2.2.2.2.1 p.2.2.2.2.2.2.2.2.2.2.2.2.2.1 p.2.2.2.2.2.2.2.2.2.2.2.2.2.2⟩
noncomputable abbrev K76 : Cons := [(118, C118), (126, C126)]
noncomputable abbrev L76 : List (Nat × Loops) := [(76, [(4, f_impl_InsOk.l0.c)])]
abbrev Q76 : List (Nat × List (Int × Nat) × Nat) := [(127, [(82, 1), (65, 2), (66, 3)], 4)]
noncomputable abbrev X76 : Nat → Ctx := ctxOf tb K76 L76 Q76
theorem f_impl_InsOk.l0.ok : ∀ n p, (fun (p : Bool × ByteArray × Bool × Int × Int × Int × Int × Int × Int × Int × Int × Int × Int × Int × Int) => f_impl_InsOk.l0 n p.1 p.2.1 p.2.2.1 p.2.2.2.1 p.2.2.2.2.1 p.2.2.2.2.2.1 p.2.2.2.2.2.2.1 p.2.2.2.2.2.2.2.1 p.2.2.2.2.2.2.2.2.1 p.2.2.2.2.2.2.2.2.2.1 p.2.2.2.2.2.2.2.2.2.2.1 p.2.2.2.2.2.2.2.2.2.2.2.1 p.2.2.2.2.2.2.2.2.2.2.2.2.1 p.2.2.2.2.2.2.2.2.2.2.2.2.2.1 p.2.2.2.2.2.2.2.2.2.2.2.2.2.2) p = iterD (roundOf fs X76 6 76 4 false f_impl_InsOk.l0.c) n p :=
  iter_of (l := fun n => fun (p : Bool × ByteArray × Bool × Int × Int × Int × Int × Int × Int × Int × Int × Int × Int × Int × Int) => f_impl_InsOk.l0 n p.1 p.2.1 p.2.2.1 p.2.2.2.1 p.2.2.2.2.1 p.2.2.2.2.2.1 p.2.2.2.2.2.2.1 p.2.2.2.2.2.2.2.1 p.2.2.2.2.2.2.2.2.1 p.2.2.2.2.2.2.2.2.2.1 p.2.2.2.2.2.2.2.2.2.2.1 p.2.2.2.2.2.2.2.2.2.2.2.1 p.2.2.2.2.2.2.2.2.2.2.2.2.1 p.2.2.2.2.2.2.2.2.2.2.2.2.2.1 p.2.2.2.2.2.2.2.2.2.2.2.2.2.2) (fun _ => rfl) (fun n p => by kernel_rfl)
theorem E76 : ∀ x, funRun fs X76 6 76 C76 x = C76.fn x := fun x => by kernel_rfl
theorem B76 : ConB Try.prog 76 C76 := ConB.make FS MIX TY (cons := K76) (L := L76) (ptrs := Q76) ⟨S118, S126, trivial⟩ ⟨PT127, trivial⟩ ⟨⟨⟨N, fun p => f_impl_InsOk.l0.ok N p⟩, trivial⟩, trivial⟩ rfl rfl E76
theorem S76 : ConS Try.prog 76 C76 := B76.call rfl
/-! impl.Code: function 74 -/
noncomputable def f_impl_Code (x0 : Int) (x1 : Int) (x2 : Int) (x3 : Int) (x4 : Int) : Option (Int × Bool) :=
  (f_impl_InsOk x0 x1 x2 x3 x4).bind fun y61 =>
  bif (!y61) then
    some (0, false)
  else
    some ((IntKind.wrap .i64 ((IntKind.wrap .i64 ((IntKind.wrap .i64 ((IntKind.wrap .i64 (x0 + (IntKind.wrap .i64 ((16 : Int) * x1)))) + (IntKind.wrap .i64 ((64 : Int) * x2)))) + (IntKind.wrap .i64 ((256 : Int) * x3)))) + (IntKind.wrap .i64 ((1024 : Int) * x4)))), true)
noncomputable def C74 : Con := ⟨[(.B, true, [(.int .i64), (.int .i64), (.int .i64), (.int .i64), (.int .i64)])], [(false, [(.int .i64)]), (false, [.bool])], [(.int .i64), (.int .i64), (.int .i64), (.int .i64), (.int .i64)], [(.int .i64), .bool], fun (p : Int × Int × Int × Int × Int) => f_impl_Code p.1 p.2.1 p.2.2.1 p.2.2.2.1 p.2.2.2.2⟩
noncomputable abbrev K74 : Cons := [(76, C76)]
noncomputable abbrev L74 : List (Nat × Loops) := []
abbrev Q74 : List (Nat × List (Int × Nat) × Nat) := []
noncomputable abbrev X74 : Nat → Ctx := ctxOf tb K74 L74 Q74
theorem E74 : ∀ x, funRun fs X74 6 74 C74 x = C74.fn x := fun x => by kernel_rfl
theorem B74 : ConB Try.prog 74 C74 := ConB.make FS MIX TY (cons := K74) (L := L74) (ptrs := Q74) ⟨S76, trivial⟩ trivial trivial rfl rfl E74
theorem S74 : ConS Try.prog 74 C74 := B74.call rfl
/-! spec.l8Field: function 130 -/
noncomputable def f_spec_l8Field (x0 : Int) (x1 : Int) (x2 : Bool) : Option (Bool) :=
  (f_spec_l1In x0 0 x1).bind fun y62 =>
  bif y62 then
    bif x2 then
      some true
    else
      some (decide (x0 = (0 : Int)))
  else
    some false
noncomputable def C130 : Con := ⟨[(.B, false, [(.int .i64)]), (.B, false, [(.int .i64)]), (.B, false, [.bool])], [(false, [.bool])], [(.int .i64), (.int .i64), .bool], [.bool], fun (p : Int × Int × Bool) => f_spec_l8Field p.1 p.2.1 p.2.2⟩
noncomputable abbrev K130 : Cons := [(94, C94)]
noncomputable abbrev L130 : List (Nat × Loops) := []
abbrev Q130 : List (Nat × List (Int × Nat) × Nat) := []
noncomputable abbrev X130 : Nat → Ctx := ctxOf tb K130 L130 Q130
theorem E130 : ∀ x, funRun fs X130 6 130 C130 x = C130.fn x := fun x => by kernel_rfl
theorem B130 : ConB Try.prog 130 C130 := ConB.make FS MIX TY (cons := K130) (L := L130) (ptrs := Q130) ⟨S94, trivial⟩ trivial trivial rfl rfl E130
theorem S130 : ConS Try.prog 130 C130 := B130.call rfl
/-! spec.InsOk: function 82 -/
noncomputable def f_spec_InsOk (x0 : Int) (x1 : Int) (x2 : Int) (x3 : Int) (x4 : Int) : Option (Bool) :=
  (f_spec_l8Has x0).bind fun y63 =>
  (f_spec_l1In x0 1 10).bind fun y64 =>
  bif y64 then
    (f_spec_l8Field x1 3 (!(decide ((bitI .and .i64 y63 (1 : Int)) = (0 : Int))))).bind fun y65 =>
    bif y65 then
      (f_spec_l8Field x2 3 (!(decide ((bitI .and .i64 y63 (2 : Int)) = (0 : Int))))).bind fun y66 =>
      bif y66 then
        (f_spec_l8Field x3 3 (!(decide ((bitI .and .i64 y63 (4 : Int)) = (0 : Int))))).bind fun y67 =>
        bif y67 then
          (f_spec_l8Field x4 63 (!(decide ((bitI .and .i64 y63 (8 : Int)) = (0 : Int))))).bind fun y68 =>
          some y68
        else
          some false
      else
        some false
    else
      some false
  else
    some false
noncomputable def C82 : Con := ⟨[(.B, true, [(.int .i64), (.int .i64), (.int .i64), (.int .i64), (.int .i64)])], [(false, [.bool])], [(.int .i64), (.int .i64), (.int .i64), (.int .i64), (.int .i64)], [.bool], fun (p : Int × Int × Int × Int × Int) => f_spec_InsOk p.1 p.2.1 p.2.2.1 p.2.2.2.1 p.2.2.2.2⟩
noncomputable abbrev K82 : Cons := [(94, C94), (129, C129), (130, C130)]
noncomputable abbrev L82 : List (Nat × Loops) := []
abbrev Q82 : List (Nat × List (Int × Nat) × Nat) := []
noncomputable abbrev X82 : Nat → Ctx := ctxOf tb K82 L82 Q82
theorem E82 : ∀ x, funRun fs X82 6 82 C82 x = C82.fn x := fun x => by kernel_rfl
theorem B82 : ConB Try.prog 82 C82 := ConB.make FS MIX TY (cons := K82) (L := L82) (ptrs := Q82) ⟨S94, S129, S130, trivial⟩ trivial trivial rfl rfl E82
theorem S82 : ConS Try.prog 82 C82 := B82.call rfl
/-! spec.Code: function 75 -/
noncomputable def f_spec_Code (x0 : Int) (x1 : Int) (x2 : Int) (x3 : Int) (x4 : Int) : Option (Int × Bool) :=
  (f_spec_InsOk x0 x1 x2 x3 x4).bind fun y69 =>
  bif (!y69) then
    some (0, false)
  else
    some ((IntKind.wrap .i64 ((IntKind.wrap .i64 ((IntKind.wrap .i64 ((IntKind.wrap .i64 (x0 + (IntKind.wrap .i64 ((16 : Int) * x1)))) + (IntKind.wrap .i64 ((64 : Int) * x2)))) + (IntKind.wrap .i64 ((256 : Int) * x3)))) + (IntKind.wrap .i64 ((1024 : Int) * x4)))), true)
noncomputable def C75 : Con := ⟨[(.B, true, [(.int .i64), (.int .i64), (.int .i64), (.int .i64), (.int .i64)])], [(false, [(.int .i64)]), (false, [.bool])], [(.int .i64), (.int .i64), (.int .i64), (.int .i64), (.int .i64)], [(.int .i64), .bool], fun (p : Int × Int × Int × Int × Int) => f_spec_Code p.1 p.2.1 p.2.2.1 p.2.2.2.1 p.2.2.2.2⟩
noncomputable abbrev K75 : Cons := [(82, C82)]
noncomputable abbrev L75 : List (Nat × Loops) := []
abbrev Q75 : List (Nat × List (Int × Nat) × Nat) := []
noncomputable abbrev X75 : Nat → Ctx := ctxOf tb K75 L75 Q75
theorem E75 : ∀ x, funRun fs X75 6 75 C75 x = C75.fn x := fun x => by kernel_rfl
theorem B75 : ConB Try.prog 75 C75 := ConB.make FS MIX TY (cons := K75) (L := L75) (ptrs := Q75) ⟨S82, trivial⟩ trivial trivial rfl rfl E75
theorem S75 : ConS Try.prog 75 C75 := B75.call rfl
/-! impl.isWord: function 109 -/
noncomputable def f_impl_isWord (x0 : Int) : Option (Bool) :=
  (f_impl_from x0 0 65535).bind fun y70 =>
  some y70
noncomputable def C109 : Con := ⟨[(.B, false, [(.int .i64)])], [(false, [.bool])], [(.int .i64)], [.bool], fun (p : Int) => f_impl_isWord p⟩
noncomputable abbrev K109 : Cons := [(118, C118)]
noncomputable abbrev L109 : List (Nat × Loops) := []
abbrev Q109 : List (Nat × List (Int × Nat) × Nat) := []
noncomputable abbrev X109 : Nat → Ctx := ctxOf tb K109 L109 Q109
theorem E109 : ∀ x, funRun fs X109 6 109 C109 x = C109.fn x := fun x => by kernel_rfl
theorem B109 : ConB Try.prog 109 C109 := ConB.make FS MIX TY (cons := K109) (L := L109) (ptrs := Q109) ⟨S118, trivial⟩ trivial trivial rfl rfl E109
theorem S109 : ConS Try.prog 109 C109 := B109.call rfl
/-! impl.Decode: function 77 -/
noncomputable def f_impl_Decode (x0 : Int) : Option (Int × Int × Int × Int × Int × Bool) :=
  (f_impl_isWord x0).bind fun y71 =>
  bif (!y71) then
    some (0, 0, 0, 0, 0, false)
  else
    (f_impl_InsOk (Int.tmod x0 (16 : Int)) (Int.tmod (IntKind.wrap .i64 (Int.tdiv x0 (16 : Int))) (4 : Int)) (Int.tmod (IntKind.wrap .i64 (Int.tdiv x0 (64 : Int))) (4 : Int)) (Int.tmod (IntKind.wrap .i64 (Int.tdiv x0 (256 : Int))) (4 : Int)) (IntKind.wrap .i64 (Int.tdiv x0 (1024 : Int)))).bind fun y72 =>
    bif (!y72) then
      some (0, 0, 0, 0, 0, false)
    else
      some ((Int.tmod x0 (16 : Int)), (Int.tmod (IntKind.wrap .i64 (Int.tdiv x0 (16 : Int))) (4 : Int)), (Int.tmod (IntKind.wrap .i64 (Int.tdiv x0 (64 : Int))) (4 : Int)), (Int.tmod (IntKind.wrap .i64 (Int.tdiv x0 (256 : Int))) (4 : Int)), (IntKind.wrap .i64 (Int.tdiv x0 (1024 : Int))), true)
noncomputable def C77 : Con := ⟨[(.B, false, [(.int .i64)])], [(true, [(.int .i64), (.int .i64), (.int .i64), (.int .i64), (.int .i64)]), (false, [.bool])], [(.int .i64)], [(.int .i64), (.int .i64), (.int .i64), (.int .i64), (.int .i64), .bool], fun (p : Int) => f_impl_Decode p⟩
noncomputable abbrev K77 : Cons := [(76, C76), (109, C109)]
noncomputable abbrev L77 : List (Nat × Loops) := []
abbrev Q77 : List (Nat × List (Int × Nat) × Nat) := []
noncomputable abbrev X77 : Nat → Ctx := ctxOf tb K77 L77 Q77
theorem E77 : ∀ x, funRun fs X77 6 77 C77 x = C77.fn x := fun x => by kernel_rfl
theorem B77 : ConB Try.prog 77 C77 := ConB.make FS MIX TY (cons := K77) (L := L77) (ptrs := Q77) ⟨S76, S109, trivial⟩ trivial trivial rfl rfl E77
theorem S77 : ConS Try.prog 77 C77 := B77.call rfl
/-! spec.DrawDecode: function 78 -/
noncomputable def f_spec_DrawDecode.l0 : Nat → (List Int) → Int → Int → Option (List Int × Int)
  | 0, _, _, _ => none
  | n + 1, p73, p74, p75 =>
    bif (decide (p75 < (p73.length : Int))) then
      bif (decide (p75 < (4000 : Int))) then
        bif ((decide ((0 : Int) ≤ p75)) && (decide (p75 < (p73.length : Int)))) then
        f_spec_DrawDecode.l0 n p73 (bitI .and .i64 (IntKind.wrap .i64 ((IntKind.wrap .i64 ((IntKind.wrap .i64 (p74 * (131 : Int))) + (IntKind.wrap .i64 ((p73.getD p75.toNat 0))))) + (7 : Int))) (1073741823 : Int)) (IntKind.wrap .i64 (p75 + (1 : Int)))
        else none
      else
        some (p73, p74)
    else
      some (p73, p74)
noncomputable def f_spec_DrawDecode (x0 : List Int) : Option (Int) :=
  (f_spec_DrawDecode.l0 N x0 (IntKind.wrap .i64 ((20404 : Int) + (x0.length : Int))) 0).bind fun r76 =>
  (f_spec_l8DrawIns r76.1 0 r76.2).bind fun y77 =>
  (f_spec_Code y77.1 y77.2.1 y77.2.2.1 y77.2.2.2.1 y77.2.2.2.2.1).bind fun y78 =>
  (f_spec_l1Below r76.1 y77.2.2.2.2.2.1 y77.2.2.2.2.2.2 6).bind fun y79 =>
  bif (decide (y79.1 = (0 : Int))) then
    (f_spec_l1PickInt r76.1 y79.2.1 y79.2.2 ([1, 16, 64, 256, 1024] : List Int)).bind fun y80 =>
    some (IntKind.wrap .i64 (y78.1 + y80.1))
  else
    bif (decide (y79.1 = (1 : Int))) then
      (f_spec_l1PickInt r76.1 y79.2.1 y79.2.2 ([-1, 0, 65535, 65536, 15] : List Int)).bind fun y81 =>
      some y81.1
    else
      some y78.1
noncomputable def C78 : Con := ⟨[(.B, false, [(.sl R0)])], [(false, [(.int .i64)])], [(.sl R0)], [(.int .i64)], fun (p : List Int) => f_spec_DrawDecode p⟩
noncomputable def f_spec_DrawDecode.l0.c : LoopCon := ⟨1065, 5, [0, 3, 4], ⟨[(0, .bor none R0 []), (3, .int .i64 0), (4, .int .i64 0)], [], 1065⟩, [(.sl R0), (.int .i64), (.int .i64)], [⟨.exit 0, [0, 3], ⟨[(0, .bor none R0 []), (3, .int .i64 0)], [], 1065⟩, [(.sl R0), (.int .i64)]⟩], fun (p : List Int × Int × Int) => f_spec_DrawDecode.l0 N p.1 p.2.1 p.2.2⟩
noncomputable abbrev K78 : Cons := [(75, C75), (116, C116), (119, C119), (128, C128)]
noncomputable abbrev L78 : List (Nat × Loops) := [(117, [(3, f_spec_DrawDecode.l0.c)])]
abbrev Q78 : List (Nat × List (Int × Nat) × Nat) := []
noncomputable abbrev X78 : Nat → Ctx := ctxOf tb K78 L78 Q78
theorem f_spec_DrawDecode.l0.ok : ∀ n p, (fun (p : List Int × Int × Int) => f_spec_DrawDecode.l0 n p.1 p.2.1 p.2.2) p = iterD (roundOf fs X78 5 117 3 true f_spec_DrawDecode.l0.c) n p :=
  iter_of (l := fun n => fun (p : List Int × Int × Int) => f_spec_DrawDecode.l0 n p.1 p.2.1 p.2.2) (fun _ => rfl) (fun n p => by kernel_rfl)
theorem E78 : ∀ x, funRun fs X78 6 78 C78 x = C78.fn x := fun x => by kernel_rfl
theorem B78 : ConB Try.prog 78 C78 := ConB.make FS MIX TY (cons := K78) (L := L78) (ptrs := Q78) ⟨S75, S116, S119, S128, trivial⟩ trivial ⟨⟨⟨N, fun p => f_spec_DrawDecode.l0.ok N p⟩, trivial⟩, trivial⟩ rfl rfl E78
theorem S78 : ConS Try.prog 78 C78 := B78.call rfl
/-! spec.Decode: function 79 -/
noncomputable def f_spec_Decode (x0 : Int) : Option (Int × Int × Int × Int × Int × Bool) :=
  (f_spec_l1In x0 0 65535).bind fun y82 =>
  bif (!y82) then
    some (0, 0, 0, 0, 0, false)
  else
    (f_spec_InsOk (Int.tmod x0 (16 : Int)) (Int.tmod (IntKind.wrap .i64 (Int.tdiv x0 (16 : Int))) (4 : Int)) (Int.tmod (IntKind.wrap .i64 (Int.tdiv x0 (64 : Int))) (4 : Int)) (Int.tmod (IntKind.wrap .i64 (Int.tdiv x0 (256 : Int))) (4 : Int)) (IntKind.wrap .i64 (Int.tdiv x0 (1024 : Int)))).bind fun y83 =>
    bif (!y83) then
      some (0, 0, 0, 0, 0, false)
    else
      some ((Int.tmod x0 (16 : Int)), (Int.tmod (IntKind.wrap .i64 (Int.tdiv x0 (16 : Int))) (4 : Int)), (Int.tmod (IntKind.wrap .i64 (Int.tdiv x0 (64 : Int))) (4 : Int)), (Int.tmod (IntKind.wrap .i64 (Int.tdiv x0 (256 : Int))) (4 : Int)), (IntKind.wrap .i64 (Int.tdiv x0 (1024 : Int))), true)
noncomputable def C79 : Con := ⟨[(.B, false, [(.int .i64)])], [(true, [(.int .i64), (.int .i64), (.int .i64), (.int .i64), (.int .i64)]), (false, [.bool])], [(.int .i64)], [(.int .i64), (.int .i64), (.int .i64), (.int .i64), (.int .i64), .bool], fun (p : Int) => f_spec_Decode p⟩
noncomputable abbrev K79 : Cons := [(82, C82), (94, C94)]
noncomputable abbrev L79 : List (Nat × Loops) := []
abbrev Q79 : List (Nat × List (Int × Nat) × Nat) := []
noncomputable abbrev X79 : Nat → Ctx := ctxOf tb K79 L79 Q79
theorem E79 : ∀ x, funRun fs X79 6 79 C79 x = C79.fn x := fun x => by kernel_rfl
theorem B79 : ConB Try.prog 79 C79 := ConB.make FS MIX TY (cons := K79) (L := L79) (ptrs := Q79) ⟨S82, S94, trivial⟩ trivial trivial rfl rfl E79
theorem S79 : ConS Try.prog 79 C79 := B79.call rfl
/-! spec.DrawInsOk: function 80 -/
noncomputable def f_spec_DrawInsOk (x0 : List Int) : Option (Int × Int × Int × Int × Int) :=
  (f_spec_l8DrawOne x0).bind fun y84 =>
  some (y84.1, y84.2.1, y84.2.2.1, y84.2.2.2.1, y84.2.2.2.2)
noncomputable def C80 : Con := ⟨[(.B, false, [(.sl R0)])], [(true, [(.int .i64), (.int .i64), (.int .i64), (.int .i64), (.int .i64)])], [(.sl R0)], [(.int .i64), (.int .i64), (.int .i64), (.int .i64), (.int .i64)], fun (p : List Int) => f_spec_DrawInsOk p⟩
noncomputable abbrev K80 : Cons := [(121, C121)]
noncomputable abbrev L80 : List (Nat × Loops) := []
abbrev Q80 : List (Nat × List (Int × Nat) × Nat) := []
noncomputable abbrev X80 : Nat → Ctx := ctxOf tb K80 L80 Q80
theorem E80 : ∀ x, funRun fs X80 6 80 C80 x = C80.fn x := fun x => by kernel_rfl
theorem B80 : ConB Try.prog 80 C80 := ConB.make FS MIX TY (cons := K80) (L := L80) (ptrs := Q80) ⟨S121, trivial⟩ trivial trivial rfl rfl E80
theorem S80 : ConS Try.prog 80 C80 := B80.call rfl
/-! spec.DrawEnds: function 81 -/
noncomputable def f_spec_DrawEnds (x0 : List Int) : Option (Int × Int × Int × Int × Int) :=
  (f_spec_l8DrawOne x0).bind fun y85 =>
  some (y85.1, y85.2.1, y85.2.2.1, y85.2.2.2.1, y85.2.2.2.2)
noncomputable def C81 : Con := ⟨[(.B, false, [(.sl R0)])], [(true, [(.int .i64), (.int .i64), (.int .i64), (.int .i64), (.int .i64)])], [(.sl R0)], [(.int .i64), (.int .i64), (.int .i64), (.int .i64), (.int .i64)], fun (p : List Int) => f_spec_DrawEnds p⟩
noncomputable abbrev K81 : Cons := [(121, C121)]
noncomputable abbrev L81 : List (Nat × Loops) := []
abbrev Q81 : List (Nat × List (Int × Nat) × Nat) := []
noncomputable abbrev X81 : Nat → Ctx := ctxOf tb K81 L81 Q81
theorem E81 : ∀ x, funRun fs X81 6 81 C81 x = C81.fn x := fun x => by kernel_rfl
theorem B81 : ConB Try.prog 81 C81 := ConB.make FS MIX TY (cons := K81) (L := L81) (ptrs := Q81) ⟨S121, trivial⟩ trivial trivial rfl rfl E81
theorem S81 : ConS Try.prog 81 C81 := B81.call rfl
/-! impl.Ends: function 83 -/
noncomputable def f_impl_Ends (x0 : Int) (x1 : Int) (x2 : Int) (x3 : Int) (x4 : Int) : Option (Bool) :=
  (f_impl_InsOk x0 x1 x2 x3 x4).bind fun y86 =>
  bif (!y86) then
    some true
  else
    bif (decide (x0 = (7 : Int))) then
      some true
    else
      bif (decide (x0 = (8 : Int))) then
        some true
      else
        some (decide (x0 = (9 : Int)))
noncomputable def C83 : Con := ⟨[(.B, true, [(.int .i64), (.int .i64), (.int .i64), (.int .i64), (.int .i64)])], [(false, [.bool])], [(.int .i64), (.int .i64), (.int .i64), (.int .i64), (.int .i64)], [.bool], fun (p : Int × Int × Int × Int × Int) => f_impl_Ends p.1 p.2.1 p.2.2.1 p.2.2.2.1 p.2.2.2.2⟩
noncomputable abbrev K83 : Cons := [(76, C76)]
noncomputable abbrev L83 : List (Nat × Loops) := []
abbrev Q83 : List (Nat × List (Int × Nat) × Nat) := []
noncomputable abbrev X83 : Nat → Ctx := ctxOf tb K83 L83 Q83
theorem E83 : ∀ x, funRun fs X83 6 83 C83 x = C83.fn x := fun x => by kernel_rfl
theorem B83 : ConB Try.prog 83 C83 := ConB.make FS MIX TY (cons := K83) (L := L83) (ptrs := Q83) ⟨S76, trivial⟩ trivial trivial rfl rfl E83
theorem S83 : ConS Try.prog 83 C83 := B83.call rfl
/-! spec.Ends: function 84 -/
noncomputable def f_spec_Ends (x0 : Int) (x1 : Int) (x2 : Int) (x3 : Int) (x4 : Int) : Option (Bool) :=
  (f_spec_InsOk x0 x1 x2 x3 x4).bind fun y87 =>
  bif (!y87) then
    some true
  else
    bif (decide (x0 = (7 : Int))) then
      some true
    else
      bif (decide (x0 = (8 : Int))) then
        some true
      else
        some (decide (x0 = (9 : Int)))
noncomputable def C84 : Con := ⟨[(.B, true, [(.int .i64), (.int .i64), (.int .i64), (.int .i64), (.int .i64)])], [(false, [.bool])], [(.int .i64), (.int .i64), (.int .i64), (.int .i64), (.int .i64)], [.bool], fun (p : Int × Int × Int × Int × Int) => f_spec_Ends p.1 p.2.1 p.2.2.1 p.2.2.2.1 p.2.2.2.2⟩
noncomputable abbrev K84 : Cons := [(82, C82)]
noncomputable abbrev L84 : List (Nat × Loops) := []
abbrev Q84 : List (Nat × List (Int × Nat) × Nat) := []
noncomputable abbrev X84 : Nat → Ctx := ctxOf tb K84 L84 Q84
theorem E84 : ∀ x, funRun fs X84 6 84 C84 x = C84.fn x := fun x => by kernel_rfl
theorem B84 : ConB Try.prog 84 C84 := ConB.make FS MIX TY (cons := K84) (L := L84) (ptrs := Q84) ⟨S82, trivial⟩ trivial trivial rfl rfl E84
theorem S84 : ConS Try.prog 84 C84 := B84.call rfl
/-! laws.FnCodes: function 12 -/
noncomputable def f_laws_FnCodes (x0 : List Int) : Option (Bool) :=
  (f_laws_big x0).bind fun y88 =>
  bif y88 then
    some true
  else
    (f_spec_DrawCode x0).bind fun y89 =>
    (f_impl_Code y89.1 y89.2.1 y89.2.2.1 y89.2.2.2.1 y89.2.2.2.2).bind fun y90 =>
    (f_spec_Code y89.1 y89.2.1 y89.2.2.1 y89.2.2.2.1 y89.2.2.2.2).bind fun y91 =>
    bif (!(y90.2 == y91.2)) then
      some false
    else
      bif (!(decide (y90.1 = y91.1))) then
        some false
      else
        (f_impl_InsOk y89.1 y89.2.1 y89.2.2.1 y89.2.2.2.1 y89.2.2.2.2).bind fun y92 =>
        bif (!(y90.2 == y92)) then
          some false
        else
          bif y90.2 then
            (f_impl_Decode y90.1).bind fun y93 =>
            bif (!y93.2.2.2.2.2) then
              some false
            else
              bif (!((decide (y93.1 = y89.1)) && ((decide (y93.2.1 = y89.2.1)) && ((decide (y93.2.2.1 = y89.2.2.1)) && ((decide (y93.2.2.2.1 = y89.2.2.2.1)) && (decide (y93.2.2.2.2.1 = y89.2.2.2.2))))))) then
                some false
              else
                bif (decide (y90.1 < (0 : Int))) then
                  some false
                else
                  bif (decide ((65535 : Int) < y90.1)) then
                    some false
                  else
                    (f_spec_DrawDecode x0).bind fun y94 =>
                    (f_impl_Decode y94).bind fun y95 =>
                    (f_spec_Decode y94).bind fun y96 =>
                    (f_spec_DrawInsOk x0).bind fun y97 =>
                    (f_spec_DrawEnds x0).bind fun y98 =>
                    bif (!(y95.2.2.2.2.2 == y96.2.2.2.2.2)) then
                      some false
                    else
                      (f_impl_InsOk y97.1 y97.2.1 y97.2.2.1 y97.2.2.2.1 y97.2.2.2.2).bind fun y99 =>
                      (f_spec_InsOk y97.1 y97.2.1 y97.2.2.1 y97.2.2.2.1 y97.2.2.2.2).bind fun y100 =>
                      bif (!(y99 == y100)) then
                        some false
                      else
                        (f_impl_Ends y98.1 y98.2.1 y98.2.2.1 y98.2.2.2.1 y98.2.2.2.2).bind fun y101 =>
                        (f_spec_Ends y98.1 y98.2.1 y98.2.2.1 y98.2.2.2.1 y98.2.2.2.2).bind fun y102 =>
                        bif (!(y101 == y102)) then
                          some false
                        else
                          (f_impl_Code y95.1 y95.2.1 y95.2.2.1 y95.2.2.2.1 y95.2.2.2.2.1).bind fun y103 =>
                          bif (!y95.2.2.2.2.2) then
                            bif ((decide (y95.1 = (0 : Int))) && ((decide (y95.2.1 = (0 : Int))) && ((decide (y95.2.2.1 = (0 : Int))) && ((decide (y95.2.2.2.1 = (0 : Int))) && (decide (y95.2.2.2.2.1 = (0 : Int))))))) then
                              some true
                            else
                              bif y95.2.2.2.2.2 then
                                bif y103.2 then
                                  some (decide (y103.1 = y94))
                                else
                                  some false
                              else
                                some false
                          else
                            bif y95.2.2.2.2.2 then
                              bif y103.2 then
                                some (decide (y103.1 = y94))
                              else
                                some false
                            else
                              some false
          else
            (f_spec_DrawDecode x0).bind fun y104 =>
            (f_impl_Decode y104).bind fun y105 =>
            (f_spec_Decode y104).bind fun y106 =>
            (f_spec_DrawInsOk x0).bind fun y107 =>
            (f_spec_DrawEnds x0).bind fun y108 =>
            bif (!(y105.2.2.2.2.2 == y106.2.2.2.2.2)) then
              some false
            else
              (f_impl_InsOk y107.1 y107.2.1 y107.2.2.1 y107.2.2.2.1 y107.2.2.2.2).bind fun y109 =>
              (f_spec_InsOk y107.1 y107.2.1 y107.2.2.1 y107.2.2.2.1 y107.2.2.2.2).bind fun y110 =>
              bif (!(y109 == y110)) then
                some false
              else
                (f_impl_Ends y108.1 y108.2.1 y108.2.2.1 y108.2.2.2.1 y108.2.2.2.2).bind fun y111 =>
                (f_spec_Ends y108.1 y108.2.1 y108.2.2.1 y108.2.2.2.1 y108.2.2.2.2).bind fun y112 =>
                bif (!(y111 == y112)) then
                  some false
                else
                  (f_impl_Code y105.1 y105.2.1 y105.2.2.1 y105.2.2.2.1 y105.2.2.2.2.1).bind fun y113 =>
                  bif (!y105.2.2.2.2.2) then
                    bif ((decide (y105.1 = (0 : Int))) && ((decide (y105.2.1 = (0 : Int))) && ((decide (y105.2.2.1 = (0 : Int))) && ((decide (y105.2.2.2.1 = (0 : Int))) && (decide (y105.2.2.2.2.1 = (0 : Int))))))) then
                      some true
                    else
                      bif y105.2.2.2.2.2 then
                        bif y113.2 then
                          some (decide (y113.1 = y104))
                        else
                          some false
                      else
                        some false
                  else
                    bif y105.2.2.2.2.2 then
                      bif y113.2 then
                        some (decide (y113.1 = y104))
                      else
                        some false
                    else
                      some false
noncomputable def C12 : Con := ⟨[(.B, false, [(.sl R0)])], [(false, [.bool])], [(.sl R0)], [.bool], fun (p : List Int) => f_laws_FnCodes p⟩
noncomputable abbrev K12 : Cons := [(53, C53), (73, C73), (74, C74), (75, C75), (76, C76), (77, C77), (78, C78), (79, C79), (80, C80), (81, C81), (82, C82), (83, C83), (84, C84)]
noncomputable abbrev L12 : List (Nat × Loops) := []
abbrev Q12 : List (Nat × List (Int × Nat) × Nat) := []
noncomputable abbrev X12 : Nat → Ctx := ctxOf tb K12 L12 Q12
theorem E12 : ∀ x, funRun fs X12 6 12 C12 x = C12.fn x := fun x => by kernel_rfl
theorem B12 : ConB Try.prog 12 C12 := ConB.make FS MIX TY (cons := K12) (L := L12) (ptrs := Q12) ⟨S53, S73, S74, S75, S76, S77, S78, S79, S80, S81, S82, S83, S84, trivial⟩ trivial trivial rfl rfl E12
theorem S12 : ConS Try.prog 12 C12 := B12.call rfl
/-- What is left: the plain law. -/
def Pure : Prop := ∀ x : Tup [(.sl R0)], WfT [(.sl R0)] x → C12.fn x = some (true : Bool)
end
end Go.Abs
