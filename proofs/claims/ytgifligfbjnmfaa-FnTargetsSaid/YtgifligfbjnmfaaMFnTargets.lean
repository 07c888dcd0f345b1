import Derived.Test.YtgifligfbjnmfaaProg
import Derived.Test.YtgifligfbjnmfaaAbsD
import Derived.KernelRfl
namespace Go.Abs
open Go.Proofs
set_option linter.unusedVariables false
set_option maxRecDepth 100000
noncomputable section
abbrev N : Nat := 1152921504606846976
abbrev R0 : RT := .one (.int .u8)
abbrev R1 : RT := .one (.int .i64)
noncomputable def tb : Tb := [(0, ⟨false, [], [], 0, 0⟩),
  (3, ⟨false, [(.int .i64)], [], 0, 8⟩),
  (4, ⟨false, [.bool], [], 0, 1⟩),
  (5, ⟨false, [(.int .u8)], [], 0, 1⟩),
  (9, ⟨false, [.str], [], 0, 16⟩),
  (22, ⟨false, [(.sl R1)], [], 3, 24⟩),
  (26, ⟨false, [(.sl R0)], [], 5, 24⟩),
  (64, ⟨true, [(.sl R1), (.int .i64), (.int .i64)], [(0, 22), (1, 3), (2, 3)], 0, 40⟩),
  (68, ⟨true, [(.int .i64), (.int .i64), (.int .i64), (.int .i64), (.int .i64)], [(0, 3), (1, 3), (2, 3), (3, 3), (4, 3)], 0, 40⟩),
  (82, ⟨false, [], [], 0, 0⟩),
  (129, ⟨false, [], [], 0, 8⟩),
  (135, ⟨false, [], [], 0, 0⟩),
  (137, ⟨false, [], [], 0, 8⟩),
  (175, ⟨true, [(.sl R0), (.int .i64), (.int .i64)], [(0, 26), (1, 3), (2, 3)], 0, 40⟩),
  (179, ⟨false, [], [], 0, 8⟩)]
noncomputable def fsL : List (Nat × Func) := [(53, Try.f53), (117, Try.f117), (159, Try.f159), (119, Try.f119), (116, Try.f116), (94, Try.f94), (129, Try.f129), (128, Try.f128), (121, Try.f121), (105, Try.f105), (160, Try.f160), (122, Try.f122), (61, Try.f61), (126, Try.f126), (127, Try.f127), (118, Try.f118), (76, Try.f76), (123, Try.f123), (110, Try.f110), (62, Try.f62), (130, Try.f130), (82, Try.f82), (63, Try.f63), (10, Try.f10)]
noncomputable def fs : Nat → Option Func := getF fsL
theorem MIX : Try.prog.follows .mixedOrders = true := by kernel_rfl
theorem TY : tyCheck Try.prog tb = true := by kernel_rfl
theorem CAT : catCheck tb = true := by kernel_rfl
theorem FSP : FsP Try.prog fsL := ⟨Try.func53, Try.func117, Try.func159, Try.func119, Try.func116, Try.func94, Try.func129, Try.func128, Try.func121, Try.func105, Try.func160, Try.func122, Try.func61, Try.func126, Try.func127, Try.func118, Try.func76, Try.func123, Try.func110, Try.func62, Try.func130, Try.func82, Try.func63, Try.func10, trivial⟩
theorem FSC : (fsL.all fun p => fnChk p.2) = true := by kernel_rfl
theorem FS : FsS Try.prog fs := FsS.of FSP FSC
theorem PT127 : PtrS Try.prog 127 [(82, 1), (65, 2), (66, 3)] 4 := PtrS.make FS MIX TY (cons := []) (L := []) (ptrs := []) trivial trivial trivial rfl (fun l => by kernel_rfl)
/-! laws.big: function 53 -/
noncomputable def f_laws_big (x0 : List Int) : Option (Bool) :=
  some (decide ((1048576 : Int) < (x0.length : Int)))
noncomputable def C53 : Con := ⟨[(.B, false, [(.sl R0)])], [(false, [.bool])], [(.sl R0)], [.bool], fun (p : List Int) => f_laws_big p⟩
noncomputable abbrev K53 : Cons := []
noncomputable abbrev L53 : List (Nat × Loops) := []
abbrev Q53 : List (Nat × List (Int × Nat) × Nat) := []
noncomputable abbrev X53 : Nat → Ctx := ctxOf tb K53 L53 Q53
theorem E53 : ∀ x, funRun fs X53 6 53 C53 x = C53.fn x := fun x => by kernel_rfl
theorem B53 : ConB Try.prog 53 C53 := ConB.make FS MIX TY (cons := K53) (L := L53) (ptrs := Q53) trivial trivial trivial rfl rfl E53
theorem S53 : ConS Try.prog 53 C53 := B53.call rfl
/-! spec.l1Byte: function 159 -/
noncomputable def f_spec_l1Byte (x0 : List Int) (x1 : Int) (x2 : Int) : Option (Int × Int × Int) :=
  bif (decide (x1 < (x0.length : Int))) then
    bif ((decide ((0 : Int) ≤ x1)) && (decide (x1 < (x0.length : Int)))) then
    some ((bitI .and .i64 (IntKind.wrap .i64 ((bitI .and .i64 (bitI .xor .i64 (shrI .i64 (IntKind.wrap .i64 ((IntKind.wrap .i64 (x2 * (6364136223846793005 : Int))) + (1442695040888963407 : Int))) (33 : Int)) (shrI .i64 (IntKind.wrap .i64 ((IntKind.wrap .i64 (x2 * (6364136223846793005 : Int))) + (1442695040888963407 : Int))) (45 : Int))) (255 : Int)) + (IntKind.wrap .i64 ((x0.getD x1.toNat 0))))) (255 : Int)), (IntKind.wrap .i64 (x1 + (1 : Int))), (IntKind.wrap .i64 ((IntKind.wrap .i64 (x2 * (6364136223846793005 : Int))) + (1442695040888963407 : Int))))
    else none
  else
    some ((bitI .and .i64 (bitI .xor .i64 (shrI .i64 (IntKind.wrap .i64 ((IntKind.wrap .i64 (x2 * (6364136223846793005 : Int))) + (1442695040888963407 : Int))) (33 : Int)) (shrI .i64 (IntKind.wrap .i64 ((IntKind.wrap .i64 (x2 * (6364136223846793005 : Int))) + (1442695040888963407 : Int))) (45 : Int))) (255 : Int)), x1, (IntKind.wrap .i64 ((IntKind.wrap .i64 (x2 * (6364136223846793005 : Int))) + (1442695040888963407 : Int))))
noncomputable def C159 : Con := ⟨[(.P [false, true, true], false, [(.sl R0), (.int .i64), (.int .i64)])], [(false, [(.int .i64)])], [(.sl R0), (.int .i64), (.int .i64)], [(.int .i64), (.int .i64), (.int .i64)], fun (p : List Int × Int × Int) => f_spec_l1Byte p.1 p.2.1 p.2.2⟩
noncomputable abbrev K159 : Cons := []
noncomputable abbrev L159 : List (Nat × Loops) := []
abbrev Q159 : List (Nat × List (Int × Nat) × Nat) := []
noncomputable abbrev X159 : Nat → Ctx := ctxOf tb K159 L159 Q159
theorem E159 : ∀ x, funG fs X159 6 159 C159 x = C159.fn x := fun x => by kernel_rfl
theorem B159 : ConG Try.prog 159 C159 := ConG.make FS MIX TY (cons := K159) (L := L159) (ptrs := Q159) trivial trivial trivial rfl (by kernel_rfl) E159
theorem S159 : ConS Try.prog 159 C159 := B159.call (by kernel_rfl)
/-! spec.l1Below: function 119 -/
noncomputable def f_spec_l1Below (x0 : List Int) (x1 : Int) (x2 : Int) (x3 : Int) : Option (Int × Int × Int) :=
  bif (decide (x3 ≤ (0 : Int))) then
    some (0, x1, x2)
  else
    bif (decide (x3 ≤ (256 : Int))) then
      (f_spec_l1Byte x0 x1 x2).bind fun y1 =>
      bif (decide (x3 = (0 : Int))) then none else
      some ((Int.tmod y1.1 x3), y1.2.1, y1.2.2)
    else
      (f_spec_l1Byte x0 x1 x2).bind fun y2 =>
      (f_spec_l1Byte x0 y2.2.1 y2.2.2).bind fun y3 =>
      (f_spec_l1Byte x0 y3.2.1 y3.2.2).bind fun y4 =>
      (f_spec_l1Byte x0 y4.2.1 y4.2.2).bind fun y5 =>
      bif (decide (x3 = (0 : Int))) then none else
      some ((Int.tmod (IntKind.wrap .i64 ((IntKind.wrap .i64 ((IntKind.wrap .i64 ((IntKind.wrap .i64 (y2.1 * (16777216 : Int))) + (IntKind.wrap .i64 (y3.1 * (65536 : Int))))) + (IntKind.wrap .i64 (y4.1 * (256 : Int))))) + y5.1)) x3), y5.2.1, y5.2.2)
noncomputable def C119 : Con := ⟨[(.P [false, true, true], false, [(.sl R0), (.int .i64), (.int .i64)]), (.B, false, [(.int .i64)])], [(false, [(.int .i64)])], [(.sl R0), (.int .i64), (.int .i64), (.int .i64)], [(.int .i64), (.int .i64), (.int .i64)], fun (p : List Int × Int × Int × Int) => f_spec_l1Below p.1 p.2.1 p.2.2.1 p.2.2.2⟩
noncomputable abbrev K119 : Cons := [(159, C159)]
noncomputable abbrev L119 : List (Nat × Loops) := []
abbrev Q119 : List (Nat × List (Int × Nat) × Nat) := []
noncomputable abbrev X119 : Nat → Ctx := ctxOf tb K119 L119 Q119
theorem E119 : ∀ x, funG fs X119 6 119 C119 x = C119.fn x := fun x => by kernel_rfl
theorem B119 : ConG Try.prog 119 C119 := ConG.make FS MIX TY (cons := K119) (L := L119) (ptrs := Q119) ⟨S159, trivial⟩ trivial trivial rfl (by kernel_rfl) E119
theorem S119 : ConS Try.prog 119 C119 := B119.call (by kernel_rfl)
/-! spec.l1PickInt: function 116 -/
noncomputable def f_spec_l1PickInt (x0 : List Int) (x1 : Int) (x2 : Int) (x3 : List Int) : Option (Int × Int × Int) :=
  (f_spec_l1Below x0 x1 x2 (x3.length : Int)).bind fun y6 =>
  bif ((decide ((0 : Int) ≤ y6.1)) && (decide (y6.1 < (x3.length : Int)))) then
  some ((x3.getD y6.1.toNat 0), y6.2.1, y6.2.2)
  else none
noncomputable def C116 : Con := ⟨[(.P [false, true, true], false, [(.sl R0), (.int .i64), (.int .i64)]), (.B, false, [(.sl R1)])], [(false, [(.int .i64)])], [(.sl R0), (.int .i64), (.int .i64), (.sl R1)], [(.int .i64), (.int .i64), (.int .i64)], fun (p : List Int × Int × Int × List Int) => f_spec_l1PickInt p.1 p.2.1 p.2.2.1 p.2.2.2⟩
noncomputable abbrev K116 : Cons := [(119, C119)]
noncomputable abbrev L116 : List (Nat × Loops) := []
abbrev Q116 : List (Nat × List (Int × Nat) × Nat) := []
noncomputable abbrev X116 : Nat → Ctx := ctxOf tb K116 L116 Q116
theorem E116 : ∀ x, funG fs X116 6 116 C116 x = C116.fn x := fun x => by kernel_rfl
theorem B116 : ConG Try.prog 116 C116 := ConG.make FS MIX TY (cons := K116) (L := L116) (ptrs := Q116) ⟨S119, trivial⟩ trivial trivial rfl (by kernel_rfl) E116
theorem S116 : ConS Try.prog 116 C116 := B116.call (by kernel_rfl)
/-! spec.l1In: function 94 -/
noncomputable def f_spec_l1In (x0 : Int) (x1 : Int) (x2 : Int) : Option (Bool) :=
  bif (decide (x1 ≤ x0)) then
    some (decide (x0 ≤ x2))
  else
    some false
noncomputable def C94 : Con := ⟨[(.B, false, [(.int .i64)]), (.B, false, [(.int .i64)]), (.B, false, [(.int .i64)])], [(false, [.bool])], [(.int .i64), (.int .i64), (.int .i64)], [.bool], fun (p : Int × Int × Int) => f_spec_l1In p.1 p.2.1 p.2.2⟩
noncomputable abbrev K94 : Cons := []
noncomputable abbrev L94 : List (Nat × Loops) := []
abbrev Q94 : List (Nat × List (Int × Nat) × Nat) := []
noncomputable abbrev X94 : Nat → Ctx := ctxOf tb K94 L94 Q94
theorem E94 : ∀ x, funRun fs X94 6 94 C94 x = C94.fn x := fun x => by kernel_rfl
theorem B94 : ConB Try.prog 94 C94 := ConB.make FS MIX TY (cons := K94) (L := L94) (ptrs := Q94) trivial trivial trivial rfl rfl E94
theorem S94 : ConS Try.prog 94 C94 := B94.call rfl
/-! spec.l8Has: function 129 -/
noncomputable def f_spec_l8Has (x0 : Int) : Option (Int) :=
  (f_spec_l1In x0 1 10).bind fun y7 =>
  bif (!y7) then
    some 0
  else
    bif ((decide ((0 : Int) ≤ x0)) && (decide (x0 < (([0, 9, 7, 11, 11, 14, 15, 10, 8, 0, 7] : List Int).length : Int)))) then
    some (([0, 9, 7, 11, 11, 14, 15, 10, 8, 0, 7] : List Int).getD x0.toNat 0)
    else none
noncomputable def C129 : Con := ⟨[(.B, false, [(.int .i64)])], [(false, [(.int .i64)])], [(.int .i64)], [(.int .i64)], fun (p : Int) => f_spec_l8Has p⟩
noncomputable abbrev K129 : Cons := [(94, C94)]
noncomputable abbrev L129 : List (Nat × Loops) := []
abbrev Q129 : List (Nat × List (Int × Nat) × Nat) := []
noncomputable abbrev X129 : Nat → Ctx := ctxOf tb K129 L129 Q129
theorem E129 : ∀ x, funRun fs X129 6 129 C129 x = C129.fn x := fun x => by kernel_rfl
theorem B129 : ConB Try.prog 129 C129 := ConB.make FS MIX TY (cons := K129) (L := L129) (ptrs := Q129) ⟨S94, trivial⟩ trivial trivial rfl rfl E129
theorem S129 : ConS Try.prog 129 C129 := B129.call rfl
/-! spec.l8DrawIns: function 128 -/
noncomputable def f_spec_l8DrawIns (x0 : List Int) (x1 : Int) (x2 : Int) : Option (Int × Int × Int × Int × Int × Int × Int) :=
  (f_spec_l1PickInt x0 x1 x2 ([1, 1, 2, 3, 3, 4, 4, 5, 5, 5, 6, 6, 7, 8, 9, 10] : List Int)).bind fun y8 =>
  (f_spec_l8Has y8.1).bind fun y9 =>
  bif (!(decide ((bitI .and .i64 y9 (1 : Int)) = (0 : Int)))) then
    (f_spec_l1Below x0 y8.2.1 y8.2.2 4).bind fun y10 =>
    bif (!(decide ((bitI .and .i64 y9 (2 : Int)) = (0 : Int)))) then
      (f_spec_l1Below x0 y10.2.1 y10.2.2 4).bind fun y11 =>
      bif (!(decide ((bitI .and .i64 y9 (4 : Int)) = (0 : Int)))) then
        (f_spec_l1Below x0 y11.2.1 y11.2.2 4).bind fun y12 =>
        bif (!(decide ((bitI .and .i64 y9 (8 : Int)) = (0 : Int)))) then
          (f_spec_l1PickInt x0 y12.2.1 y12.2.2 ([0, 1, 2, 4, 8, 9, 12, 20, 23] : List Int)).bind fun y13 =>
          some (y8.1, y10.1, y11.1, y12.1, y13.1, y13.2.1, y13.2.2)
        else
          some (y8.1, y10.1, y11.1, y12.1, 0, y12.2.1, y12.2.2)
      else
        bif (!(decide ((bitI .and .i64 y9 (8 : Int)) = (0 : Int)))) then
          (f_spec_l1PickInt x0 y11.2.1 y11.2.2 ([0, 1, 2, 4, 8, 9, 12, 20, 23] : List Int)).bind fun y14 =>
          some (y8.1, y10.1, y11.1, 0, y14.1, y14.2.1, y14.2.2)
        else
          some (y8.1, y10.1, y11.1, 0, 0, y11.2.1, y11.2.2)
    else
      bif (!(decide ((bitI .and .i64 y9 (4 : Int)) = (0 : Int)))) then
        (f_spec_l1Below x0 y10.2.1 y10.2.2 4).bind fun y15 =>
        bif (!(decide ((bitI .and .i64 y9 (8 : Int)) = (0 : Int)))) then
          (f_spec_l1PickInt x0 y15.2.1 y15.2.2 ([0, 1, 2, 4, 8, 9, 12, 20, 23] : List Int)).bind fun y16 =>
          some (y8.1, y10.1, 0, y15.1, y16.1, y16.2.1, y16.2.2)
        else
          some (y8.1, y10.1, 0, y15.1, 0, y15.2.1, y15.2.2)
      else
        bif (!(decide ((bitI .and .i64 y9 (8 : Int)) = (0 : Int)))) then
          (f_spec_l1PickInt x0 y10.2.1 y10.2.2 ([0, 1, 2, 4, 8, 9, 12, 20, 23] : List Int)).bind fun y17 =>
          some (y8.1, y10.1, 0, 0, y17.1, y17.2.1, y17.2.2)
        else
          some (y8.1, y10.1, 0, 0, 0, y10.2.1, y10.2.2)
  else
    bif (!(decide ((bitI .and .i64 y9 (2 : Int)) = (0 : Int)))) then
      (f_spec_l1Below x0 y8.2.1 y8.2.2 4).bind fun y18 =>
      bif (!(decide ((bitI .and .i64 y9 (4 : Int)) = (0 : Int)))) then
        (f_spec_l1Below x0 y18.2.1 y18.2.2 4).bind fun y19 =>
        bif (!(decide ((bitI .and .i64 y9 (8 : Int)) = (0 : Int)))) then
          (f_spec_l1PickInt x0 y19.2.1 y19.2.2 ([0, 1, 2, 4, 8, 9, 12, 20, 23] : List Int)).bind fun y20 =>
          some (y8.1, 0, y18.1, y19.1, y20.1, y20.2.1, y20.2.2)
        else
          some (y8.1, 0, y18.1, y19.1, 0, y19.2.1, y19.2.2)
      else
        bif (!(decide ((bitI .and .i64 y9 (8 : Int)) = (0 : Int)))) then
          (f_spec_l1PickInt x0 y18.2.1 y18.2.2 ([0, 1, 2, 4, 8, 9, 12, 20, 23] : List Int)).bind fun y21 =>
          some (y8.1, 0, y18.1, 0, y21.1, y21.2.1, y21.2.2)
        else
          some (y8.1, 0, y18.1, 0, 0, y18.2.1, y18.2.2)
    else
      bif (!(decide ((bitI .and .i64 y9 (4 : Int)) = (0 : Int)))) then
        (f_spec_l1Below x0 y8.2.1 y8.2.2 4).bind fun y22 =>
        bif (!(decide ((bitI .and .i64 y9 (8 : Int)) = (0 : Int)))) then
          (f_spec_l1PickInt x0 y22.2.1 y22.2.2 ([0, 1, 2, 4, 8, 9, 12, 20, 23] : List Int)).bind fun y23 =>
          some (y8.1, 0, 0, y22.1, y23.1, y23.2.1, y23.2.2)
        else
          some (y8.1, 0, 0, y22.1, 0, y22.2.1, y22.2.2)
      else
        bif (!(decide ((bitI .and .i64 y9 (8 : Int)) = (0 : Int)))) then
          (f_spec_l1PickInt x0 y8.2.1 y8.2.2 ([0, 1, 2, 4, 8, 9, 12, 20, 23] : List Int)).bind fun y24 =>
          some (y8.1, 0, 0, 0, y24.1, y24.2.1, y24.2.2)
        else
          some (y8.1, 0, 0, 0, 0, y8.2.1, y8.2.2)
noncomputable def C128 : Con := ⟨[(.P [false, true, true], false, [(.sl R0), (.int .i64), (.int .i64)])], [(true, [(.int .i64), (.int .i64), (.int .i64), (.int .i64), (.int .i64)])], [(.sl R0), (.int .i64), (.int .i64)], [(.int .i64), (.int .i64), (.int .i64), (.int .i64), (.int .i64), (.int .i64), (.int .i64)], fun (p : List Int × Int × Int) => f_spec_l8DrawIns p.1 p.2.1 p.2.2⟩
noncomputable abbrev K128 : Cons := [(116, C116), (119, C119), (129, C129)]
noncomputable abbrev L128 : List (Nat × Loops) := []
abbrev Q128 : List (Nat × List (Int × Nat) × Nat) := []
noncomputable abbrev X128 : Nat → Ctx := ctxOf tb K128 L128 Q128
theorem E128 : ∀ x, funG fs X128 6 128 C128 x = C128.fn x := fun x => by kernel_rfl
theorem B128 : ConG Try.prog 128 C128 := ConG.make FS MIX TY (cons := K128) (L := L128) (ptrs := Q128) ⟨S116, S119, S129, trivial⟩ trivial trivial rfl (by kernel_rfl) E128
theorem S128 : ConS Try.prog 128 C128 := B128.call (by kernel_rfl)
/-! spec.l8DrawOne: function 121 -/
noncomputable def f_spec_l8DrawOne.l0 : Nat → (List Int) → Int → Int → Int → Int → Int → Int → Int → Option (List Int × Int × Int × Int × Int × Int × Int)
  | 0, _, _, _, _, _, _, _, _ => none
  | n + 1, p25, p26, p27, p28, p29, p30, p31, p32 =>
    bif (decide (p27 < (p25.length : Int))) then
      bif (decide (p27 < (4000 : Int))) then
        bif ((decide ((0 : Int) ≤ p27)) && (decide (p27 < (p25.length : Int)))) then
        f_spec_l8DrawOne.l0 n p25 (bitI .and .i64 (IntKind.wrap .i64 ((IntKind.wrap .i64 ((IntKind.wrap .i64 (p26 * (131 : Int))) + (IntKind.wrap .i64 ((p25.getD p27.toNat 0))))) + (7 : Int))) (1073741823 : Int)) (IntKind.wrap .i64 (p27 + (1 : Int))) p28 p29 p30 p31 p32
        else none
      else
        some (p25, p26, p28, p29, p30, p31, p32)
    else
      some (p25, p26, p28, p29, p30, p31, p32)
noncomputable def f_spec_l8DrawOne (x0 : List Int) : Option (Int × Int × Int × Int × Int) :=
  (f_spec_l8DrawOne.l0 N x0 (IntKind.wrap .i64 ((20404 : Int) + (x0.length : Int))) 0 0 0 0 0 0).bind fun r33 =>
  (f_spec_l8DrawIns r33.1 0 r33.2.1).bind fun y34 =>
  (f_spec_l1Below r33.1 y34.2.2.2.2.2.1 y34.2.2.2.2.2.2 8).bind fun y35 =>
  bif (decide (y35.1 = (0 : Int))) then
    (f_spec_l1Below r33.1 y35.2.1 y35.2.2 13).bind fun y36 =>
    some ((IntKind.wrap .i64 (y36.1 - (1 : Int))), y34.2.1, y34.2.2.1, y34.2.2.2.1, y34.2.2.2.2.1)
  else
    bif (decide (y35.1 = (1 : Int))) then
      (f_spec_l1PickInt r33.1 y35.2.1 y35.2.2 ([-1, 3, 4] : List Int)).bind fun y37 =>
      some (y34.1, y37.1, y34.2.2.1, y34.2.2.2.1, y34.2.2.2.2.1)
    else
      bif (decide (y35.1 = (2 : Int))) then
        (f_spec_l1PickInt r33.1 y35.2.1 y35.2.2 ([-1, 63, 64] : List Int)).bind fun y38 =>
        some (y34.1, y34.2.1, y34.2.2.1, y34.2.2.2.1, y38.1)
      else
        some (y34.1, y34.2.1, y34.2.2.1, y34.2.2.2.1, y34.2.2.2.2.1)
noncomputable def C121 : Con := ⟨[(.B, false, [(.sl R0)])], [(true, [(.int .i64), (.int .i64), (.int .i64), (.int .i64), (.int .i64)])], [(.sl R0)], [(.int .i64), (.int .i64), (.int .i64), (.int .i64), (.int .i64)], fun (p : List Int) => f_spec_l8DrawOne p⟩
noncomputable def f_spec_l8DrawOne.l0.c : LoopCon := ⟨1065, 5, [0, 3, 4], ⟨[(0, .bor none R0 []), (3, .int .i64 0), (4, .int .i64 0)], [(1001, .box [.int .i64 0, .int .i64 0, .int .i64 0, .int .i64 0, .int .i64 0])], 1065⟩, [(.sl R0), (.int .i64), (.int .i64), (.int .i64), (.int .i64), (.int .i64), (.int .i64), (.int .i64)], [⟨.exit 0, [0, 3], ⟨[(0, .bor none R0 []), (3, .int .i64 0)], [(1001, .box [.int .i64 0, .int .i64 0, .int .i64 0, .int .i64 0, .int .i64 0])], 1065⟩, [(.sl R0), (.int .i64), (.int .i64), (.int .i64), (.int .i64), (.int .i64), (.int .i64)]⟩], fun (p : List Int × Int × Int × Int × Int × Int × Int × Int) => f_spec_l8DrawOne.l0 N p.1 p.2.1 p.2.2.1 p.2.2.2.1 p.2.2.2.2.1 p.2.2.2.2.2.1 p.2.2.2.2.2.2.1 p.2.2.2.2.2.2.2⟩
noncomputable abbrev K121 : Cons := [(116, C116), (119, C119), (128, C128)]
noncomputable abbrev L121 : List (Nat × Loops) := [(117, [(3, f_spec_l8DrawOne.l0.c)])]
abbrev Q121 : List (Nat × List (Int × Nat) × Nat) := []
noncomputable abbrev X121 : Nat → Ctx := ctxOf tb K121 L121 Q121
theorem f_spec_l8DrawOne.l0.ok : ∀ n p, (fun (p : List Int × Int × Int × Int × Int × Int × Int × Int) => f_spec_l8DrawOne.l0 n p.1 p.2.1 p.2.2.1 p.2.2.2.1 p.2.2.2.2.1 p.2.2.2.2.2.1 p.2.2.2.2.2.2.1 p.2.2.2.2.2.2.2) p = iterD (roundOf fs X121 5 117 3 true f_spec_l8DrawOne.l0.c) n p :=
  iter_of (l := fun n => fun (p : List Int × Int × Int × Int × Int × Int × Int × Int) => f_spec_l8DrawOne.l0 n p.1 p.2.1 p.2.2.1 p.2.2.2.1 p.2.2.2.2.1 p.2.2.2.2.2.1 p.2.2.2.2.2.2.1 p.2.2.2.2.2.2.2) (fun _ => rfl) (fun n p => by kernel_rfl)
theorem E121 : ∀ x, funRun fs X121 6 121 C121 x = C121.fn x := fun x => by kernel_rfl
theorem B121 : ConB Try.prog 121 C121 := ConB.make FS MIX TY (cons := K121) (L := L121) (ptrs := Q121) ⟨S116, S119, S128, trivial⟩ trivial ⟨⟨⟨N, fun p => f_spec_l8DrawOne.l0.ok N p⟩, trivial⟩, trivial⟩ rfl rfl E121
theorem S121 : ConS Try.prog 121 C121 := B121.call rfl
/-! spec.l9Address: function 105 -/
noncomputable def f_spec_l9Address (x0 : Int) : Option (Int) :=
  bif (decide ((Int.tmod x0 (24 : Int)) < (0 : Int))) then
    some (IntKind.wrap .i64 ((Int.tmod x0 (24 : Int)) + (24 : Int)))
  else
    some (Int.tmod x0 (24 : Int))
noncomputable def C105 : Con := ⟨[(.B, false, [(.int .i64)])], [(false, [(.int .i64)])], [(.int .i64)], [(.int .i64)], fun (p : Int) => f_spec_l9Address p⟩
noncomputable abbrev K105 : Cons := []
noncomputable abbrev L105 : List (Nat × Loops) := []
abbrev Q105 : List (Nat × List (Int × Nat) × Nat) := []
noncomputable abbrev X105 : Nat → Ctx := ctxOf tb K105 L105 Q105
theorem E105 : ∀ x, funRun fs X105 6 105 C105 x = C105.fn x := fun x => by kernel_rfl
theorem B105 : ConB Try.prog 105 C105 := ConB.make FS MIX TY (cons := K105) (L := L105) (ptrs := Q105) trivial trivial trivial rfl rfl E105
theorem S105 : ConS Try.prog 105 C105 := B105.call rfl
/-! spec.HartNew: function 160 -/
noncomputable def f_spec_HartNew (x0 : Int) : Option (List Int × Int × Int) :=
  (f_spec_l9Address x0).bind fun y39 =>
  some ((List.replicate 4 0), y39, 0)
noncomputable def C160 : Con := ⟨[(.B, false, [(.int .i64)])], [(true, [(.sl R1), (.int .i64), (.int .i64)])], [(.int .i64)], [(.sl R1), (.int .i64), (.int .i64)], fun (p : Int) => f_spec_HartNew p⟩
noncomputable abbrev K160 : Cons := [(105, C105)]
noncomputable abbrev L160 : List (Nat × Loops) := []
abbrev Q160 : List (Nat × List (Int × Nat) × Nat) := []
noncomputable abbrev X160 : Nat → Ctx := ctxOf tb K160 L160 Q160
theorem E160 : ∀ x, funRun fs X160 6 160 C160 x = C160.fn x := fun x => by kernel_rfl
theorem B160 : ConB Try.prog 160 C160 := ConB.make FS MIX TY (cons := K160) (L := L160) (ptrs := Q160) ⟨S105, trivial⟩ trivial trivial rfl rfl E160
theorem S160 : ConS Try.prog 160 C160 := B160.call rfl
/-! spec.l9DrawHart: function 122 -/
noncomputable def f_spec_l9DrawHart.l0 : Nat → Int → (List Int) → Int → Int → Int → Int → Int → Int → (List Int) → (List Int) → Option (List Int × Int × Int × Int × Int × Int × Int × List Int × List Int)
  | 0, _, _, _, _, _, _, _, _, _, _ => none
  | n + 1, p42, p43, p44, p45, p46, p47, p48, p49, p50, p51 =>
    bif (decide (p42 < (4 : Int))) then
      (f_spec_l1PickInt p43 p44 p45 ([0, 1, 2, 20, 65535] : List Int)).bind fun y52 =>
      bif ((decide ((0 : Int) ≤ p42)) && (decide (p42 < (p51.length : Int)))) then
      (some ((p51.set p42.toNat y52.1) : List Int)).bind fun z53 =>
      f_spec_l9DrawHart.l0 n (IntKind.wrap .i64 (p42 + (1 : Int))) p43 y52.2.1 y52.2.2 p46 p47 p48 p49 p50 z53
      else none
    else
      some (p43, p44, p45, p46, p47, p48, p49, p50, p51)
noncomputable def f_spec_l9DrawHart (x0 : List Int) (x1 : Int) (x2 : Int) : Option (List Int × Int × Int × Int × Int) :=
  (f_spec_l1Below x0 x1 x2 20).bind fun y40 =>
  (f_spec_HartNew y40.1).bind fun y41 =>
  (f_spec_l9DrawHart.l0 N 0 x0 y40.2.1 y40.2.2 0 0 y41.2.1 y41.2.2 ([] : List Int) y41.1).bind fun r54 =>
  (f_spec_l1Below r54.1 r54.2.1 r54.2.2.1 12).bind fun y55 =>
  bif (decide (y55.1 = (0 : Int))) then
    (f_spec_l1Below r54.1 y55.2.1 y55.2.2 5).bind fun y56 =>
    some (r54.2.2.2.2.2.2.2.2, r54.2.2.2.2.2.1, (IntKind.wrap .i64 (y56.1 - (1 : Int))), y56.2.1, y56.2.2)
  else
    bif (decide (y55.1 = (1 : Int))) then
      (f_spec_l1PickInt r54.1 y55.2.1 y55.2.2 ([-1, 65536] : List Int)).bind fun y57 =>
      bif (decide ((0 : Int) < (r54.2.2.2.2.2.2.2.2.length : Int))) then
      (some ((r54.2.2.2.2.2.2.2.2.set 0 y57.1) : List Int)).bind fun z58 =>
      some (z58, r54.2.2.2.2.2.1, r54.2.2.2.2.2.2.1, y57.2.1, y57.2.2)
      else none
    else
      bif (decide (y55.1 = (2 : Int))) then
        (f_spec_l1PickInt r54.1 y55.2.1 y55.2.2 ([-1, 24] : List Int)).bind fun y59 =>
        some (r54.2.2.2.2.2.2.2.2, y59.1, r54.2.2.2.2.2.2.1, y59.2.1, y59.2.2)
      else
        bif (decide (y55.1 = (3 : Int))) then
          bif (decide ((1 : Int) ≤ (r54.2.2.2.2.2.2.2.2.length : Int))) then
          some (((r54.2.2.2.2.2.2.2.2.drop 1).take ((r54.2.2.2.2.2.2.2.2.length : Int) - (1 : Int)).toNat), r54.2.2.2.2.2.1, r54.2.2.2.2.2.2.1, y55.2.1, y55.2.2)
          else none
        else
          some (r54.2.2.2.2.2.2.2.2, r54.2.2.2.2.2.1, r54.2.2.2.2.2.2.1, y55.2.1, y55.2.2)
noncomputable def C122 : Con := ⟨[(.P [false, true, true], false, [(.sl R0), (.int .i64), (.int .i64)])], [(true, [(.sl R1), (.int .i64), (.int .i64)])], [(.sl R0), (.int .i64), (.int .i64)], [(.sl R1), (.int .i64), (.int .i64), (.int .i64), (.int .i64)], fun (p : List Int × Int × Int) => f_spec_l9DrawHart p.1 p.2.1 p.2.2⟩
noncomputable def f_spec_l9DrawHart.l0.c : LoopCon := ⟨1000, 6, [0, 2, 3, 4], ⟨[(0, .ptr 500 0), (2, .ptr 1000 0), (3, .ptr 1001 0), (4, .int .i64 0)], [(500, .box [.bor (some 0) R0 [], .int .i64 0, .int .i64 0]), (1000, .box [.ref 1002 [] none, .int .i64 0, .int .i64 0]), (1001, .box [.ref 1003 [] none, .int .i64 0, .int .i64 0]), (1002, .row R1 []), (1003, .row R1 [])], 1004⟩, [(.int .i64), (.sl R0), (.int .i64), (.int .i64), (.int .i64), (.int .i64), (.int .i64), (.int .i64), (.sl R1), (.sl R1)], [⟨.exit 0, [0, 2, 3], ⟨[(0, .ptr 500 0), (2, .ptr 1000 0), (3, .ptr 1001 0)], [(500, .box [.bor (some 0) R0 [], .int .i64 0, .int .i64 0]), (1000, .box [.ref 1002 [] none, .int .i64 0, .int .i64 0]), (1001, .box [.ref 1003 [] none, .int .i64 0, .int .i64 0]), (1002, .row R1 []), (1003, .row R1 [])], 1004⟩, [(.sl R0), (.int .i64), (.int .i64), (.int .i64), (.int .i64), (.int .i64), (.int .i64), (.sl R1), (.sl R1)]⟩], fun (p : Int × List Int × Int × Int × Int × Int × Int × Int × List Int × List Int) => f_spec_l9DrawHart.l0 N p.1 p.2.1 p.2.2.1 p.2.2.2.1 p.2.2.2.2.1 p.2.2.2.2.2.1 p.2.2.2.2.2.2.1 p.2.2.2.2.2.2.2.1 p.2.2.2.2.2.2.2.2.1 p.2.2.2.2.2.2.2.2.2⟩
noncomputable abbrev K122 : Cons := [(116, C116), (119, C119), (160, C160)]
noncomputable abbrev L122 : List (Nat × Loops) := [(122, [(3, f_spec_l9DrawHart.l0.c)])]
abbrev Q122 : List (Nat × List (Int × Nat) × Nat) := []
noncomputable abbrev X122 : Nat → Ctx := ctxOf tb K122 L122 Q122
theorem f_spec_l9DrawHart.l0.ok : ∀ n p, (fun (p : Int × List Int × Int × Int × Int × Int × Int × Int × List Int × List Int) => f_spec_l9DrawHart.l0 n p.1 p.2.1 p.2.2.1 p.2.2.2.1 p.2.2.2.2.1 p.2.2.2.2.2.1 p.2.2.2.2.2.2.1 p.2.2.2.2.2.2.2.1 p.2.2.2.2.2.2.2.2.1 p.2.2.2.2.2.2.2.2.2) p = iterD (roundOf fs X122 6 122 3 false f_spec_l9DrawHart.l0.c) n p :=
  iter_of (l := fun n => fun (p : Int × List Int × Int × Int × Int × Int × Int × Int × List Int × List Int) => f_spec_l9DrawHart.l0 n p.1 p.2.1 p.2.2.1 p.2.2.2.1 p.2.2.2.2.1 p.2.2.2.2.2.1 p.2.2.2.2.2.2.1 p.2.2.2.2.2.2.2.1 p.2.2.2.2.2.2.2.2.1 p.2.2.2.2.2.2.2.2.2) (fun _ => rfl) (fun n p => by kernel_rfl)
theorem E122 : ∀ x, funG fs X122 6 122 C122 x = C122.fn x := fun x => by kernel_rfl
theorem B122 : ConG Try.prog 122 C122 := ConG.make FS MIX TY (cons := K122) (L := L122) (ptrs := Q122) ⟨S116, S119, S160, trivial⟩ trivial ⟨⟨⟨N, fun p => f_spec_l9DrawHart.l0.ok N p⟩, trivial⟩, trivial⟩ rfl (by kernel_rfl) E122
theorem S122 : ConS Try.prog 122 C122 := B122.call (by kernel_rfl)
/-! spec.DrawTarget: function 61 -/
noncomputable def f_spec_DrawTarget.l0 : Nat → (List Int) → Int → Int → Int → Int → Int → Int → Int → Int → Int → Int → Int → Int → Option (List Int × Int × Int × Int × Int × Int × Int × Int × Int × Int × Int × Int)
  | 0, _, _, _, _, _, _, _, _, _, _, _, _, _ => none
  | n + 1, p61, p62, p63, p64, p65, p66, p67, p68, p69, p70, p71, p72, p73 =>
    bif (decide (p63 < (p61.length : Int))) then
      bif (decide (p63 < (4000 : Int))) then
        bif ((decide ((0 : Int) ≤ p63)) && (decide (p63 < (p61.length : Int)))) then
        f_spec_DrawTarget.l0 n p61 (bitI .and .i64 (IntKind.wrap .i64 ((IntKind.wrap .i64 ((IntKind.wrap .i64 (p62 * (131 : Int))) + (IntKind.wrap .i64 ((p61.getD p63.toNat 0))))) + (7 : Int))) (1073741823 : Int)) (IntKind.wrap .i64 (p63 + (1 : Int))) p64 p65 p66 p67 p68 p69 p70 p71 p72 p73
        else none
      else
        some (p61, p62, p64, p65, p66, p67, p68, p69, p70, p71, p72, p73)
    else
      some (p61, p62, p64, p65, p66, p67, p68, p69, p70, p71, p72, p73)
noncomputable def f_spec_DrawTarget (x0 : List Int) : Option (Int × Int × Int × Int × Int × List Int) :=
  (f_spec_l8DrawOne x0).bind fun y60 =>
  (f_spec_DrawTarget.l0 N x0 (IntKind.wrap .i64 ((20404 : Int) + (x0.length : Int))) 0 0 0 0 0 0 y60.1 y60.2.1 y60.2.2.1 y60.2.2.2.1 y60.2.2.2.2).bind fun r74 =>
  (f_spec_l9DrawHart r74.1 0 r74.2.1).bind fun y75 =>
  some (r74.2.2.2.2.2.2.2.1, r74.2.2.2.2.2.2.2.2.1, r74.2.2.2.2.2.2.2.2.2.1, r74.2.2.2.2.2.2.2.2.2.2.1, r74.2.2.2.2.2.2.2.2.2.2.2, y75.1)
noncomputable def C61 : Con := ⟨[(.B, false, [(.sl R0)])], [(true, [(.int .i64), (.int .i64), (.int .i64), (.int .i64), (.int .i64)]), (false, [(.sl R1)])], [(.sl R0)], [(.int .i64), (.int .i64), (.int .i64), (.int .i64), (.int .i64), (.sl R1)], fun (p : List Int) => f_spec_DrawTarget p⟩
noncomputable def f_spec_DrawTarget.l0.c : LoopCon := ⟨1177, 5, [0, 3, 4], ⟨[(0, .bor none R0 []), (3, .int .i64 0), (4, .int .i64 0)], [(1001, .box [.int .i64 0, .int .i64 0, .int .i64 0, .int .i64 0, .int .i64 0]), (1065, .box [.int .i64 0, .int .i64 0, .int .i64 0, .int .i64 0, .int .i64 0])], 1177⟩, [(.sl R0), (.int .i64), (.int .i64), (.int .i64), (.int .i64), (.int .i64), (.int .i64), (.int .i64), (.int .i64), (.int .i64), (.int .i64), (.int .i64), (.int .i64)], [⟨.exit 0, [0, 3], ⟨[(0, .bor none R0 []), (3, .int .i64 0)], [(1001, .box [.int .i64 0, .int .i64 0, .int .i64 0, .int .i64 0, .int .i64 0]), (1065, .box [.int .i64 0, .int .i64 0, .int .i64 0, .int .i64 0, .int .i64 0])], 1177⟩, [(.sl R0), (.int .i64), (.int .i64), (.int .i64), (.int .i64), (.int .i64), (.int .i64), (.int .i64), (.int .i64), (.int .i64), (.int .i64), (.int .i64)]⟩], fun (p : List Int × Int × Int × Int × Int × Int × Int × Int × Int × Int × Int × Int × Int) => f_spec_DrawTarget.l0 N p.1 p.2.1 p.2.2.1 p.2.2.2.1 p.2.2.2.2.1 p.2.2.2.2.2.1 p.2.2.2.2.2.2.1 p.2.2.2.2.2.2.2.1 p.2.2.2.2.2.2.2.2.1 p.2.2.2.2.2.2.2.2.2.1 p.2.2.2.2.2.2.2.2.2.2.1 p.2.2.2.2.2.2.2.2.2.2.2.1 p.2.2.2.2.2.2.2.2.2.2.2.2⟩
noncomputable abbrev K61 : Cons := [(121, C121), (122, C122)]
noncomputable abbrev L61 : List (Nat × Loops) := [(117, [(3, f_spec_DrawTarget.l0.c)])]
abbrev Q61 : List (Nat × List (Int × Nat) × Nat) := []
noncomputable abbrev X61 : Nat → Ctx := ctxOf tb K61 L61 Q61
theorem f_spec_DrawTarget.l0.ok : ∀ n p, (fun (p : List Int × Int × Int × Int × Int × Int × Int × Int × Int × Int × Int × Int × Int) => f_spec_DrawTarget.l0 n p.1 p.2.1 p.2.2.1 p.2.2.2.1 p.2.2.2.2.1 p.2.2.2.2.2.1 p.2.2.2.2.2.2.1 p.2.2.2.2.2.2.2.1 p.2.2.2.2.2.2.2.2.1 p.2.2.2.2.2.2.2.2.2.1 p.2.2.2.2.2.2.2.2.2.2.1 p.2.2.2.2.2.2.2.2.2.2.2.1 p.2.2.2.2.2.2.2.2.2.2.2.2) p = iterD (roundOf fs X61 5 117 3 true f_spec_DrawTarget.l0.c) n p :=
  iter_of (l := fun n => fun (p : List Int × Int × Int × Int × Int × Int × Int × Int × Int × Int × Int × Int × Int) => f_spec_DrawTarget.l0 n p.1 p.2.1 p.2.2.1 p.2.2.2.1 p.2.2.2.2.1 p.2.2.2.2.2.1 p.2.2.2.2.2.2.1 p.2.2.2.2.2.2.2.1 p.2.2.2.2.2.2.2.2.1 p.2.2.2.2.2.2.2.2.2.1 p.2.2.2.2.2.2.2.2.2.2.1 p.2.2.2.2.2.2.2.2.2.2.2.1 p.2.2.2.2.2.2.2.2.2.2.2.2) (fun _ => rfl) (fun n p => by kernel_rfl)
theorem E61 : ∀ x, funRun fs X61 6 61 C61 x = C61.fn x := fun x => by kernel_rfl
theorem B61 : ConB Try.prog 61 C61 := ConB.make FS MIX TY (cons := K61) (L := L61) (ptrs := Q61) ⟨S121, S122, trivial⟩ trivial ⟨⟨⟨N, fun p => f_spec_DrawTarget.l0.ok N p⟩, trivial⟩, trivial⟩ rfl rfl E61
theorem S61 : ConS Try.prog 61 C61 := B61.call rfl
/-! impl.form: function 126 -/
noncomputable def f_impl_form (x0 : Int) : Option (ByteArray × Bool) :=
  bif (decide (x0 = (1 : Int))) then
    some ((⟨#[82, 78]⟩ : ByteArray), true)
  else
    bif (decide (x0 = (2 : Int))) then
      some ((⟨#[82, 65, 66]⟩ : ByteArray), true)
    else
      bif (decide (x0 = (10 : Int))) then
        some ((⟨#[82, 65, 66]⟩ : ByteArray), true)
      else
        bif (decide (x0 = (3 : Int))) then
          some ((⟨#[82, 65, 78]⟩ : ByteArray), true)
        else
          bif (decide (x0 = (4 : Int))) then
            some ((⟨#[82, 65, 78]⟩ : ByteArray), true)
          else
            bif (decide (x0 = (5 : Int))) then
              some ((⟨#[65, 66, 78]⟩ : ByteArray), true)
            else
              bif (decide (x0 = (6 : Int))) then
                some ((⟨#[82, 65, 66, 78]⟩ : ByteArray), true)
              else
                bif (decide (x0 = (7 : Int))) then
                  some ((⟨#[65, 78]⟩ : ByteArray), true)
                else
                  bif (decide (x0 = (8 : Int))) then
                    some ((⟨#[78]⟩ : ByteArray), true)
                  else
                    bif (decide (x0 = (9 : Int))) then
                      some ((⟨#[]⟩ : ByteArray), true)
                    else
                      some ((⟨#[]⟩ : ByteArray), false)
noncomputable def C126 : Con := ⟨[(.B, false, [(.int .i64)])], [(false, [.str]), (false, [.bool])], [(.int .i64)], [.str, .bool], fun (p : Int) => f_impl_form p⟩
noncomputable abbrev K126 : Cons := []
noncomputable abbrev L126 : List (Nat × Loops) := []
abbrev Q126 : List (Nat × List (Int × Nat) × Nat) := []
noncomputable abbrev X126 : Nat → Ctx := ctxOf tb K126 L126 Q126
theorem E126 : ∀ x, funRun fs X126 6 126 C126 x = C126.fn x := fun x => by kernel_rfl
theorem B126 : ConB Try.prog 126 C126 := ConB.make FS MIX TY (cons := K126) (L := L126) (ptrs := Q126) trivial trivial trivial rfl rfl E126
theorem S126 : ConS Try.prog 126 C126 := B126.call rfl
/-! impl.from: function 118 -/
noncomputable def f_impl_from (x0 : Int) (x1 : Int) (x2 : Int) : Option (Bool) :=
  bif (decide (x1 ≤ x0)) then
    some (decide (x0 ≤ x2))
  else
    some false
noncomputable def C118 : Con := ⟨[(.B, false, [(.int .i64)]), (.B, false, [(.int .i64)]), (.B, false, [(.int .i64)])], [(false, [.bool])], [(.int .i64), (.int .i64), (.int .i64)], [.bool], fun (p : Int × Int × Int) => f_impl_from p.1 p.2.1 p.2.2⟩
noncomputable abbrev K118 : Cons := []
noncomputable abbrev L118 : List (Nat × Loops) := []
abbrev Q118 : List (Nat × List (Int × Nat) × Nat) := []
noncomputable abbrev X118 : Nat → Ctx := ctxOf tb K118 L118 Q118
theorem E118 : ∀ x, funRun fs X118 6 118 C118 x = C118.fn x := fun x => by kernel_rfl
theorem B118 : ConB Try.prog 118 C118 := ConB.make FS MIX TY (cons := K118) (L := L118) (ptrs := Q118) trivial trivial trivial rfl rfl E118
theorem S118 : ConS Try.prog 118 C118 := B118.call rfl
/-! impl.InsOk: function 76 -/
noncomputable def f_impl_InsOk.l0 : Nat → Bool → ByteArray → Bool → Int → Int → Int → Int → Int → Int → Int → Int → Int → Int → Int → Int → Option (Bool × Bool × Int × Int × Int × Int × Int × Int × Int × Int × Int × Int)
  | 0, _, _, _, _, _, _, _, _, _, _, _, _, _, _, _ => none
  | n + 1, p77, p78, p79, p80, p81, p82, p83, p84, p85, p86, p87, p88, p89, p90, p91 =>
    bif (decide (p81 < p80)) then
      bif ((decide ((0 : Int) ≤ p81)) && (decide (p81 < (p78.size : Int)))) then
      bif (decide (((p78.data.getD p81.toNat 0).toNat : Int) = (82 : Int))) then
        bif ((decide ((0 : Int) ≤ p81)) && (decide (p81 < (p78.size : Int)))) then
        bif (decide (((p78.data.getD p81.toNat 0).toNat : Int) = (82 : Int))) then
          f_impl_InsOk.l0 n p77 p78 p79 p80 (IntKind.wrap .i64 (p81 + (1 : Int))) p82 p83 p84 p85 p86 p87 p83 p89 p90 p91
        else
          bif (decide (((p78.data.getD p81.toNat 0).toNat : Int) = (65 : Int))) then
            f_impl_InsOk.l0 n p77 p78 p79 p80 (IntKind.wrap .i64 (p81 + (1 : Int))) p82 p83 p84 p85 p86 p87 p84 p89 p90 p91
          else
            bif (decide (((p78.data.getD p81.toNat 0).toNat : Int) = (66 : Int))) then
              f_impl_InsOk.l0 n p77 p78 p79 p80 (IntKind.wrap .i64 (p81 + (1 : Int))) p82 p83 p84 p85 p86 p87 p85 p89 p90 p91
            else
              f_impl_InsOk.l0 n p77 p78 p79 p80 (IntKind.wrap .i64 (p81 + (1 : Int))) p82 p83 p84 p85 p86 p87 p86 p89 p90 p91
        else none
      else
        bif (decide (((p78.data.getD p81.toNat 0).toNat : Int) = (65 : Int))) then
          bif ((decide ((0 : Int) ≤ p81)) && (decide (p81 < (p78.size : Int)))) then
          bif (decide (((p78.data.getD p81.toNat 0).toNat : Int) = (82 : Int))) then
            f_impl_InsOk.l0 n p77 p78 p79 p80 (IntKind.wrap .i64 (p81 + (1 : Int))) p82 p83 p84 p85 p86 p87 p88 p83 p90 p91
          else
            bif (decide (((p78.data.getD p81.toNat 0).toNat : Int) = (65 : Int))) then
              f_impl_InsOk.l0 n p77 p78 p79 p80 (IntKind.wrap .i64 (p81 + (1 : Int))) p82 p83 p84 p85 p86 p87 p88 p84 p90 p91
            else
              bif (decide (((p78.data.getD p81.toNat 0).toNat : Int) = (66 : Int))) then
                f_impl_InsOk.l0 n p77 p78 p79 p80 (IntKind.wrap .i64 (p81 + (1 : Int))) p82 p83 p84 p85 p86 p87 p88 p85 p90 p91
              else
                f_impl_InsOk.l0 n p77 p78 p79 p80 (IntKind.wrap .i64 (p81 + (1 : Int))) p82 p83 p84 p85 p86 p87 p88 p86 p90 p91
          else none
        else
          bif (decide (((p78.data.getD p81.toNat 0).toNat : Int) = (66 : Int))) then
            bif ((decide ((0 : Int) ≤ p81)) && (decide (p81 < (p78.size : Int)))) then
            bif (decide (((p78.data.getD p81.toNat 0).toNat : Int) = (82 : Int))) then
              f_impl_InsOk.l0 n p77 p78 p79 p80 (IntKind.wrap .i64 (p81 + (1 : Int))) p82 p83 p84 p85 p86 p87 p88 p89 p83 p91
            else
              bif (decide (((p78.data.getD p81.toNat 0).toNat : Int) = (65 : Int))) then
                f_impl_InsOk.l0 n p77 p78 p79 p80 (IntKind.wrap .i64 (p81 + (1 : Int))) p82 p83 p84 p85 p86 p87 p88 p89 p84 p91
              else
                bif (decide (((p78.data.getD p81.toNat 0).toNat : Int) = (66 : Int))) then
                  f_impl_InsOk.l0 n p77 p78 p79 p80 (IntKind.wrap .i64 (p81 + (1 : Int))) p82 p83 p84 p85 p86 p87 p88 p89 p85 p91
                else
                  f_impl_InsOk.l0 n p77 p78 p79 p80 (IntKind.wrap .i64 (p81 + (1 : Int))) p82 p83 p84 p85 p86 p87 p88 p89 p86 p91
            else none
          else
            bif ((decide ((0 : Int) ≤ p81)) && (decide (p81 < (p78.size : Int)))) then
            bif (decide (((p78.data.getD p81.toNat 0).toNat : Int) = (82 : Int))) then
              f_impl_InsOk.l0 n p77 p78 p79 p80 (IntKind.wrap .i64 (p81 + (1 : Int))) p82 p83 p84 p85 p86 p87 p88 p89 p90 p83
            else
              bif (decide (((p78.data.getD p81.toNat 0).toNat : Int) = (65 : Int))) then
                f_impl_InsOk.l0 n p77 p78 p79 p80 (IntKind.wrap .i64 (p81 + (1 : Int))) p82 p83 p84 p85 p86 p87 p88 p89 p90 p84
              else
                bif (decide (((p78.data.getD p81.toNat 0).toNat : Int) = (66 : Int))) then
                  f_impl_InsOk.l0 n p77 p78 p79 p80 (IntKind.wrap .i64 (p81 + (1 : Int))) p82 p83 p84 p85 p86 p87 p88 p89 p90 p85
                else
                  f_impl_InsOk.l0 n p77 p78 p79 p80 (IntKind.wrap .i64 (p81 + (1 : Int))) p82 p83 p84 p85 p86 p87 p88 p89 p90 p86
            else none
      else none
    else
      some (p77, p79, p82, p83, p84, p85, p86, p87, p88, p89, p90, p91)
noncomputable def f_impl_InsOk (x0 : Int) (x1 : Int) (x2 : Int) (x3 : Int) (x4 : Int) : Option (Bool) :=
  (f_impl_form x0).bind fun y76 =>
  (f_impl_InsOk.l0 N false y76.1 y76.2 (y76.1.size : Int) 0 x0 x1 x2 x3 x4 x0 0 0 0 0).bind fun r92 =>
  bif r92.2.1 then
    bif ((decide (r92.2.2.2.2.2.2.2.1 = r92.2.2.1)) && ((decide (r92.2.2.2.2.2.2.2.2.1 = r92.2.2.2.1)) && ((decide (r92.2.2.2.2.2.2.2.2.2.1 = r92.2.2.2.2.1)) && ((decide (r92.2.2.2.2.2.2.2.2.2.2.1 = r92.2.2.2.2.2.1)) && (decide (r92.2.2.2.2.2.2.2.2.2.2.2 = r92.2.2.2.2.2.2.1)))))) then
      (f_impl_from r92.2.2.2.1 0 3).bind fun y93 =>
      bif y93 then
        (f_impl_from r92.2.2.2.2.1 0 3).bind fun y94 =>
        bif y94 then
          (f_impl_from r92.2.2.2.2.2.1 0 3).bind fun y95 =>
          bif y95 then
            (f_impl_from r92.2.2.2.2.2.2.1 0 63).bind fun y96 =>
            some y96
          else
            some false
        else
          some false
      else
        some false
    else
      some false
  else
    some false
noncomputable def C76 : Con := ⟨[(.B, true, [(.int .i64), (.int .i64), (.int .i64), (.int .i64), (.int .i64)])], [(false, [.bool])], [(.int .i64), (.int .i64), (.int .i64), (.int .i64), (.int .i64)], [.bool], fun (p : Int × Int × Int × Int × Int) => f_impl_InsOk p.1 p.2.1 p.2.2.1 p.2.2.2.1 p.2.2.2.2⟩
noncomputable def f_impl_InsOk.l0.c : LoopCon := ⟨1000, 6, [1, 2, 3, 4, 5, 17, 18], ⟨[(1, .ptr 1000 0), (2, .bool false), (3, .str ⟨#[]⟩), (4, .bool false), (5, .ptr 1001 0), (17, .int .i64 0), (18, .int .i64 0)], [(1000, .box [.int .i64 0, .int .i64 0, .int .i64 0, .int .i64 0, .int .i64 0]), (1001, .box [.int .i64 0, .int .i64 0, .int .i64 0, .int .i64 0, .int .i64 0])], 1002⟩, [.bool, .str, .bool, (.int .i64), (.int .i64), (.int .i64), (.int .i64), (.int .i64), (.int .i64), (.int .i64), (.int .i64), (.int .i64), (.int .i64), (.int .i64), (.int .i64)], [⟨.exit 0, [1, 2, 4, 5], ⟨[(1, .ptr 1000 0), (2, .bool false), (4, .bool false), (5, .ptr 1001 0)], [(1000, .box [.int .i64 0, .int .i64 0, .int .i64 0, .int .i64 0, .int .i64 0]), (1001, .box [.int .i64 0, .int .i64 0, .int .i64 0, .int .i64 0, .int .i64 0])], 1002⟩, [.bool, .bool, (.int .i64), (.int .i64), (.int .i64), (.int .i64), (.int .i64), (.int .i64), (.int .i64), (.int .i64), (.int .i64), (.int .i64)]⟩], fun (p : Bool × ByteArray × Bool × Int × Int × Int × Int × Int × Int × Int × Int × Int × Int × Int × Int) => f_impl_InsOk.l0 N p.1 p.2.1 p.2.2.1 p.2.2.2.1 p.2.2.2.2.1 p.2.2.2.2.2.1 p.2.2.2.2.2.2.1 p.2.2.2.2.2.2.2.1 p.2.2.2.2.2.2.2.2.1 p.2.2.2.2.2.2.2.2.2.1 p.2.2.2.2.2.2.2.2.2.2.1 p.2.2.2.2.2.2.2.2.2.2.2.1 p.2.2.2.2.2.2.2.2.2.2.2.2.1 p.2.2.2.2.2.2.2.2.2.2.2.2.2.1 p.2.2.2.2.2.2.2.2.2.2.2.2.2.2⟩
noncomputable abbrev K76 : Cons := [(118, C118), (126, C126)]
noncomputable abbrev L76 : List (Nat × Loops) := [(76, [(4, f_impl_InsOk.l0.c)])]
abbrev Q76 : List (Nat × List (Int × Nat) × Nat) := [(127, [(82, 1), (65, 2), (66, 3)], 4)]
noncomputable abbrev X76 : Nat → Ctx := ctxOf tb K76 L76 Q76
theorem f_impl_InsOk.l0.ok : ∀ n p, (fun (p : Bool × ByteArray × Bool × Int × Int × Int × Int × Int × Int × Int × Int × Int × Int × Int × Int) => f_impl_InsOk.l0 n p.1 p.2.1 p.2.2.1 p.2.2.2.1 p.2.2.2.2.1 p.2.2.2.2.2.1 p.2.2.2.2.2.2.1 p.2.2.2.2.2.2.2.1 p.2.2.2.2.2.2.2.2.1 p.2.2.2.2.2.2.2.2.2.1 p.2.2.2.2.2.2.2.2.2.2.1 p.2.2.2.2.2.2.2.2.2.2.2.1 p.2.2.2.2.2.2.2.2.2.2.2.2.1 p.2.2.2.2.2.2.2.2.2.2.2.2.2.1 p.2.2.2.2.2.2.2.2.2.2.2.2.2.2) p = iterD (roundOf fs X76 6 76 4 false f_impl_InsOk.l0.c) n p :=
  iter_of (l := fun n => fun (p : Bool × ByteArray × Bool × Int × Int × Int × Int × Int × Int × Int × Int × Int × Int × Int × Int) => f_impl_InsOk.l0 n p.1 p.2.1 p.2.2.1 p.2.2.2.1 p.2.2.2.2.1 p.2.2.2.2.2.1 p.2.2.2.2.2.2.1 p.2.2.2.2.2.2.2.1 p.2.2.2.2.2.2.2.2.1 p.2.2.2.2.2.2.2.2.2.1 p.2.2.2.2.2.2.2.2.2.2.1 p.2.2.2.2.2.2.2.2.2.2.2.1 p.2.2.2.2.2.2.2.2.2.2.2.2.1 p.2.2.2.2.2.2.2.2.2.2.2.2.2.1 p.2.2.2.2.2.2.2.2.2.2.2.2.2.2) (fun _ => rfl) (fun n p => by kernel_rfl)
theorem E76 : ∀ x, funRun fs X76 6 76 C76 x = C76.fn x := fun x => by kernel_rfl
theorem B76 : ConB Try.prog 76 C76 := ConB.make FS MIX TY (cons := K76) (L := L76) (ptrs := Q76) ⟨S118, S126, trivial⟩ ⟨PT127, trivial⟩ ⟨⟨⟨N, fun p => f_impl_InsOk.l0.ok N p⟩, trivial⟩, trivial⟩ rfl rfl E76
theorem S76 : ConS Try.prog 76 C76 := B76.call rfl
/-! impl.aims: function 123 -/
noncomputable def f_impl_aims (x0 : Int) (x1 : Int) (x2 : Int) (x3 : Int) (x4 : Int) : Option (Bool) :=
  bif (decide (x0 = (4 : Int))) then
    some true
  else
    bif (decide (x0 = (5 : Int))) then
      some true
    else
      some (decide (x0 = (6 : Int)))
noncomputable def C123 : Con := ⟨[(.B, true, [(.int .i64), (.int .i64), (.int .i64), (.int .i64), (.int .i64)])], [(false, [.bool])], [(.int .i64), (.int .i64), (.int .i64), (.int .i64), (.int .i64)], [.bool], fun (p : Int × Int × Int × Int × Int) => f_impl_aims p.1 p.2.1 p.2.2.1 p.2.2.2.1 p.2.2.2.2⟩
noncomputable abbrev K123 : Cons := []
noncomputable abbrev L123 : List (Nat × Loops) := []
abbrev Q123 : List (Nat × List (Int × Nat) × Nat) := []
noncomputable abbrev X123 : Nat → Ctx := ctxOf tb K123 L123 Q123
theorem E123 : ∀ x, funRun fs X123 6 123 C123 x = C123.fn x := fun x => by kernel_rfl
theorem B123 : ConB Try.prog 123 C123 := ConB.make FS MIX TY (cons := K123) (L := L123) (ptrs := Q123) trivial trivial trivial rfl rfl E123
theorem S123 : ConS Try.prog 123 C123 := B123.call rfl
/-! impl.address: function 110 -/
noncomputable def f_impl_address (x0 : Int) : Option (Int) :=
  some (Int.tmod (IntKind.wrap .i64 ((Int.tmod x0 (24 : Int)) + (24 : Int))) (24 : Int))
noncomputable def C110 : Con := ⟨[(.B, false, [(.int .i64)])], [(false, [(.int .i64)])], [(.int .i64)], [(.int .i64)], fun (p : Int) => f_impl_address p⟩
noncomputable abbrev K110 : Cons := []
noncomputable abbrev L110 : List (Nat × Loops) := []
abbrev Q110 : List (Nat × List (Int × Nat) × Nat) := []
noncomputable abbrev X110 : Nat → Ctx := ctxOf tb K110 L110 Q110
theorem E110 : ∀ x, funRun fs X110 6 110 C110 x = C110.fn x := fun x => by kernel_rfl
theorem B110 : ConB Try.prog 110 C110 := ConB.make FS MIX TY (cons := K110) (L := L110) (ptrs := Q110) trivial trivial trivial rfl rfl E110
theorem S110 : ConS Try.prog 110 C110 := B110.call rfl
/-! impl.Target: function 62 -/
noncomputable def f_impl_Target (x0 : Int) (x1 : Int) (x2 : Int) (x3 : Int) (x4 : Int) (x5 : List Int) : Option (Int) :=
  (f_impl_InsOk x0 x1 x2 x3 x4).bind fun y97 =>
  bif (!y97) then
    some (-1)
  else
    (f_impl_aims x0 x1 x2 x3 x4).bind fun y98 =>
    bif (!y98) then
      some (-1)
    else
      bif (!(decide ((x5.length : Int) = (4 : Int)))) then
        some (-1)
      else
        bif ((decide ((0 : Int) ≤ x2)) && (decide (x2 < (x5.length : Int)))) then
        (f_impl_address (IntKind.wrap .i64 ((x5.getD x2.toNat 0) + x4))).bind fun y99 =>
        some y99
        else none
noncomputable def C62 : Con := ⟨[(.B, true, [(.int .i64), (.int .i64), (.int .i64), (.int .i64), (.int .i64)]), (.B, false, [(.sl R1)])], [(false, [(.int .i64)])], [(.int .i64), (.int .i64), (.int .i64), (.int .i64), (.int .i64), (.sl R1)], [(.int .i64)], fun (p : Int × Int × Int × Int × Int × List Int) => f_impl_Target p.1 p.2.1 p.2.2.1 p.2.2.2.1 p.2.2.2.2.1 p.2.2.2.2.2⟩
noncomputable abbrev K62 : Cons := [(76, C76), (110, C110), (123, C123)]
noncomputable abbrev L62 : List (Nat × Loops) := []
abbrev Q62 : List (Nat × List (Int × Nat) × Nat) := []
noncomputable abbrev X62 : Nat → Ctx := ctxOf tb K62 L62 Q62
theorem E62 : ∀ x, funRun fs X62 6 62 C62 x = C62.fn x := fun x => by kernel_rfl
theorem B62 : ConB Try.prog 62 C62 := ConB.make FS MIX TY (cons := K62) (L := L62) (ptrs := Q62) ⟨S76, S110, S123, trivial⟩ trivial trivial rfl rfl E62
theorem S62 : ConS Try.prog 62 C62 := B62.call rfl
/-! spec.l8Field: function 130 -/
noncomputable def f_spec_l8Field (x0 : Int) (x1 : Int) (x2 : Bool) : Option (Bool) :=
  (f_spec_l1In x0 0 x1).bind fun y100 =>
  bif y100 then
    bif x2 then
      some true
    else
      some (decide (x0 = (0 : Int)))
  else
    some false
noncomputable def C130 : Con := ⟨[(.B, false, [(.int .i64)]), (.B, false, [(.int .i64)]), (.B, false, [.bool])], [(false, [.bool])], [(.int .i64), (.int .i64), .bool], [.bool], fun (p : Int × Int × Bool) => f_spec_l8Field p.1 p.2.1 p.2.2⟩
noncomputable abbrev K130 : Cons := [(94, C94)]
noncomputable abbrev L130 : List (Nat × Loops) := []
abbrev Q130 : List (Nat × List (Int × Nat) × Nat) := []
noncomputable abbrev X130 : Nat → Ctx := ctxOf tb K130 L130 Q130
theorem E130 : ∀ x, funRun fs X130 6 130 C130 x = C130.fn x := fun x => by kernel_rfl
theorem B130 : ConB Try.prog 130 C130 := ConB.make FS MIX TY (cons := K130) (L := L130) (ptrs := Q130) ⟨S94, trivial⟩ trivial trivial rfl rfl E130
theorem S130 : ConS Try.prog 130 C130 := B130.call rfl
/-! spec.InsOk: function 82 -/
noncomputable def f_spec_InsOk (x0 : Int) (x1 : Int) (x2 : Int) (x3 : Int) (x4 : Int) : Option (Bool) :=
  (f_spec_l8Has x0).bind fun y101 =>
  (f_spec_l1In x0 1 10).bind fun y102 =>
  bif y102 then
    (f_spec_l8Field x1 3 (!(decide ((bitI .and .i64 y101 (1 : Int)) = (0 : Int))))).bind fun y103 =>
    bif y103 then
      (f_spec_l8Field x2 3 (!(decide ((bitI .and .i64 y101 (2 : Int)) = (0 : Int))))).bind fun y104 =>
      bif y104 then
        (f_spec_l8Field x3 3 (!(decide ((bitI .and .i64 y101 (4 : Int)) = (0 : Int))))).bind fun y105 =>
        bif y105 then
          (f_spec_l8Field x4 63 (!(decide ((bitI .and .i64 y101 (8 : Int)) = (0 : Int))))).bind fun y106 =>
          some y106
        else
          some false
      else
        some false
    else
      some false
  else
    some false
noncomputable def C82 : Con := ⟨[(.B, true, [(.int .i64), (.int .i64), (.int .i64), (.int .i64), (.int .i64)])], [(false, [.bool])], [(.int .i64), (.int .i64), (.int .i64), (.int .i64), (.int .i64)], [.bool], fun (p : Int × Int × Int × Int × Int) => f_spec_InsOk p.1 p.2.1 p.2.2.1 p.2.2.2.1 p.2.2.2.2⟩
noncomputable abbrev K82 : Cons := [(94, C94), (129, C129), (130, C130)]
noncomputable abbrev L82 : List (Nat × Loops) := []
abbrev Q82 : List (Nat × List (Int × Nat) × Nat) := []
noncomputable abbrev X82 : Nat → Ctx := ctxOf tb K82 L82 Q82
theorem E82 : ∀ x, funRun fs X82 6 82 C82 x = C82.fn x := fun x => by kernel_rfl
theorem B82 : ConB Try.prog 82 C82 := ConB.make FS MIX TY (cons := K82) (L := L82) (ptrs := Q82) ⟨S94, S129, S130, trivial⟩ trivial trivial rfl rfl E82
theorem S82 : ConS Try.prog 82 C82 := B82.call rfl
/-! spec.Target: function 63 -/
noncomputable def f_spec_Target (x0 : Int) (x1 : Int) (x2 : Int) (x3 : Int) (x4 : Int) (x5 : List Int) : Option (Int) :=
  (f_spec_InsOk x0 x1 x2 x3 x4).bind fun y107 =>
  bif (!y107) then
    some (-1)
  else
    bif (!(decide ((x5.length : Int) = (4 : Int)))) then
      some (-1)
    else
      bif (!(decide (x0 = (4 : Int)))) then
        bif (!(decide (x0 = (5 : Int)))) then
          bif (!(decide (x0 = (6 : Int)))) then
            some (-1)
          else
            bif ((decide ((0 : Int) ≤ x2)) && (decide (x2 < (x5.length : Int)))) then
            (f_spec_l9Address (IntKind.wrap .i64 ((x5.getD x2.toNat 0) + x4))).bind fun y108 =>
            some y108
            else none
        else
          bif ((decide ((0 : Int) ≤ x2)) && (decide (x2 < (x5.length : Int)))) then
          (f_spec_l9Address (IntKind.wrap .i64 ((x5.getD x2.toNat 0) + x4))).bind fun y109 =>
          some y109
          else none
      else
        bif ((decide ((0 : Int) ≤ x2)) && (decide (x2 < (x5.length : Int)))) then
        (f_spec_l9Address (IntKind.wrap .i64 ((x5.getD x2.toNat 0) + x4))).bind fun y110 =>
        some y110
        else none
noncomputable def C63 : Con := ⟨[(.B, true, [(.int .i64), (.int .i64), (.int .i64), (.int .i64), (.int .i64)]), (.B, false, [(.sl R1)])], [(false, [(.int .i64)])], [(.int .i64), (.int .i64), (.int .i64), (.int .i64), (.int .i64), (.sl R1)], [(.int .i64)], fun (p : Int × Int × Int × Int × Int × List Int) => f_spec_Target p.1 p.2.1 p.2.2.1 p.2.2.2.1 p.2.2.2.2.1 p.2.2.2.2.2⟩
noncomputable abbrev K63 : Cons := [(82, C82), (105, C105)]
noncomputable abbrev L63 : List (Nat × Loops) := []
abbrev Q63 : List (Nat × List (Int × Nat) × Nat) := []
noncomputable abbrev X63 : Nat → Ctx := ctxOf tb K63 L63 Q63
theorem E63 : ∀ x, funRun fs X63 6 63 C63 x = C63.fn x := fun x => by kernel_rfl
theorem B63 : ConB Try.prog 63 C63 := ConB.make FS MIX TY (cons := K63) (L := L63) (ptrs := Q63) ⟨S82, S105, trivial⟩ trivial trivial rfl rfl E63
theorem S63 : ConS Try.prog 63 C63 := B63.call rfl
/-! laws.FnTargets: function 10 -/
noncomputable def f_laws_FnTargets (x0 : List Int) : Option (Bool) :=
  (f_laws_big x0).bind fun y111 =>
  bif y111 then
    some true
  else
    (f_spec_DrawTarget x0).bind fun y112 =>
    (f_impl_Target y112.1 y112.2.1 y112.2.2.1 y112.2.2.2.1 y112.2.2.2.2.1 y112.2.2.2.2.2).bind fun y113 =>
    (f_spec_Target y112.1 y112.2.1 y112.2.2.1 y112.2.2.2.1 y112.2.2.2.2.1 y112.2.2.2.2.2).bind fun y114 =>
    bif (!(decide (y113 = y114))) then
      some false
    else
      bif (decide (y113 < (-1 : Int))) then
        some false
      else
        bif (decide ((24 : Int) ≤ y113)) then
          some false
        else
          bif (decide (y112.1 = (4 : Int))) then
            some true
          else
            bif (decide (y112.1 = (5 : Int))) then
              some true
            else
              bif (decide (y112.1 = (6 : Int))) then
                some true
              else
                some (decide (y113 = (-1 : Int)))
noncomputable def C10 : Con := ⟨[(.B, false, [(.sl R0)])], [(false, [.bool])], [(.sl R0)], [.bool], fun (p : List Int) => f_laws_FnTargets p⟩
noncomputable abbrev K10 : Cons := [(53, C53), (61, C61), (62, C62), (63, C63)]
noncomputable abbrev L10 : List (Nat × Loops) := []
abbrev Q10 : List (Nat × List (Int × Nat) × Nat) := []
noncomputable abbrev X10 : Nat → Ctx := ctxOf tb K10 L10 Q10
theorem E10 : ∀ x, funRun fs X10 6 10 C10 x = C10.fn x := fun x => by kernel_rfl
theorem B10 : ConB Try.prog 10 C10 := ConB.make FS MIX TY (cons := K10) (L := L10) (ptrs := Q10) ⟨S53, S61, S62, S63, trivial⟩ trivial trivial rfl rfl E10
theorem S10 : ConS Try.prog 10 C10 := B10.call rfl
/-- What is left: the plain law. -/
def Pure : Prop := ∀ x : Tup [(.sl R0)], WfT [(.sl R0)] x → C10.fn x = some (true : Bool)
end
end Go.Abs
