import Derived.Test.YtgifligfbjnmfaaProg
import Derived.Test.YtgifligfbjnmfaaAbsD
import Derived.KernelRfl
namespace Go.Abs
open Go.Proofs
set_option linter.unusedVariables false
set_option maxRecDepth 100000
noncomputable section
abbrev N : Nat := 1152921504606846976
abbrev R0 : RT := .one (.int .u8)
abbrev R1 : RT := .one (.int .i64)
noncomputable def tb : Tb := [(0, ⟨false, [], [], 0, 0⟩),
  (3, ⟨false, [(.int .i64)], [], 0, 8⟩),
  (4, ⟨false, [.bool], [], 0, 1⟩),
  (5, ⟨false, [(.int .u8)], [], 0, 1⟩),
  (9, ⟨false, [.str], [], 0, 16⟩),
  (22, ⟨false, [(.sl R1)], [], 3, 24⟩),
  (26, ⟨false, [(.sl R0)], [], 5, 24⟩),
  (78, ⟨false, [], [], 0, 0⟩),
  (80, ⟨false, [], [], 0, 0⟩),
  (129, ⟨false, [], [], 0, 8⟩),
  (175, ⟨true, [(.sl R0), (.int .i64), (.int .i64)], [(0, 26), (1, 3), (2, 3)], 0, 40⟩)]
noncomputable def fsL : List (Nat × Func) := [(53, Try.f53), (117, Try.f117), (159, Try.f159), (119, Try.f119), (116, Try.f116), (54, Try.f54), (118, Try.f118), (55, Try.f55), (94, Try.f94), (56, Try.f56), (58, Try.f58), (57, Try.f57), (120, Try.f120), (59, Try.f59), (60, Try.f60), (9, Try.f9)]
noncomputable def fs : Nat → Option Func := getF fsL
theorem MIX : Try.prog.follows .mixedOrders = true := by kernel_rfl
theorem TY : tyCheck Try.prog tb = true := by kernel_rfl
theorem CAT : catCheck tb = true := by kernel_rfl
theorem FSP : FsP Try.prog fsL := ⟨Try.func53, Try.func117, Try.func159, Try.func119, Try.func116, Try.func54, Try.func118, Try.func55, Try.func94, Try.func56, Try.func58, Try.func57, Try.func120, Try.func59, Try.func60, Try.func9, trivial⟩
theorem FSC : (fsL.all fun p => fnChk p.2) = true := by kernel_rfl
theorem FS : FsS Try.prog fs := FsS.of FSP FSC
/-! laws.big: function 53 -/
noncomputable def f_laws_big (x0 : List Int) : Option (Bool) :=
  some (decide ((1048576 : Int) < (x0.length : Int)))
noncomputable def C53 : Con := ⟨[(.B, false, [(.sl R0)])], [(false, [.bool])], [(.sl R0)], [.bool], fun (p : List Int) => f_laws_big p⟩
noncomputable abbrev K53 : Cons := []
noncomputable abbrev L53 : List (Nat × Loops) := []
abbrev Q53 : List (Nat × List (Int × Nat) × Nat) := []
noncomputable abbrev X53 : Nat → Ctx := ctxOf tb K53 L53 Q53
theorem E53 : ∀ x, funRun fs X53 6 53 C53 x = C53.fn x := fun x => by kernel_rfl
theorem B53 : ConB Try.prog 53 C53 := ConB.make FS MIX TY (cons := K53) (L := L53) (ptrs := Q53) trivial trivial trivial rfl rfl E53
theorem S53 : ConS Try.prog 53 C53 := B53.call rfl
/-! spec.l1Byte: function 159 -/
noncomputable def f_spec_l1Byte (x0 : List Int) (x1 : Int) (x2 : Int) : Option (Int × Int × Int) :=
  bif (decide (x1 < (x0.length : Int))) then
    bif ((decide ((0 : Int) ≤ x1)) && (decide (x1 < (x0.length : Int)))) then
    some ((bitI .and .i64 (IntKind.wrap .i64 ((bitI .and .i64 (bitI .xor .i64 (shrI .i64 (IntKind.wrap .i64 ((IntKind.wrap .i64 (x2 * (6364136223846793005 : Int))) + (1442695040888963407 : Int))) (33 : Int)) (shrI .i64 (IntKind.wrap .i64 ((IntKind.wrap .i64 (x2 * (6364136223846793005 : Int))) + (1442695040888963407 : Int))) (45 : Int))) (255 : Int)) + (IntKind.wrap .i64 ((x0.getD x1.toNat 0))))) (255 : Int)), (IntKind.wrap .i64 (x1 + (1 : Int))), (IntKind.wrap .i64 ((IntKind.wrap .i64 (x2 * (6364136223846793005 : Int))) + (1442695040888963407 : Int))))
    else none
  else
    some ((bitI .and .i64 (bitI .xor .i64 (shrI .i64 (IntKind.wrap .i64 ((IntKind.wrap .i64 (x2 * (6364136223846793005 : Int))) + (1442695040888963407 : Int))) (33 : Int)) (shrI .i64 (IntKind.wrap .i64 ((IntKind.wrap .i64 (x2 * (6364136223846793005 : Int))) + (1442695040888963407 : Int))) (45 : Int))) (255 : Int)), x1, (IntKind.wrap .i64 ((IntKind.wrap .i64 (x2 * (6364136223846793005 : Int))) + (1442695040888963407 : Int))))
noncomputable def C159 : Con := ⟨[(.P [false, true, true], false, [(.sl R0), (.int .i64), (.int .i64)])], [(false, [(.int .i64)])], [(.sl R0), (.int .i64), (.int .i64)], [(.int .i64), (.int .i64), (.int .i64)], fun (p : List Int × Int × Int) => f_spec_l1Byte p.1 p.2.1 p.2.2⟩
noncomputable abbrev K159 : Cons := []
noncomputable abbrev L159 : List (Nat × Loops) := []
abbrev Q159 : List (Nat × List (Int × Nat) × Nat) := []
noncomputable abbrev X159 : Nat → Ctx := ctxOf tb K159 L159 Q159
theorem E159 : ∀ x, funG fs X159 6 159 C159 x = C159.fn x := fun x => by kernel_rfl
theorem B159 : ConG Try.prog 159 C159 := ConG.make FS MIX TY (cons := K159) (L := L159) (ptrs := Q159) trivial trivial trivial rfl (by kernel_rfl) E159
theorem S159 : ConS Try.prog 159 C159 := B159.call (by kernel_rfl)
/-! spec.l1Below: function 119 -/
noncomputable def f_spec_l1Below (x0 : List Int) (x1 : Int) (x2 : Int) (x3 : Int) : Option (Int × Int × Int) :=
  bif (decide (x3 ≤ (0 : Int))) then
    some (0, x1, x2)
  else
    bif (decide (x3 ≤ (256 : Int))) then
      (f_spec_l1Byte x0 x1 x2).bind fun y1 =>
      bif (decide (x3 = (0 : Int))) then none else
      some ((Int.tmod y1.1 x3), y1.2.1, y1.2.2)
    else
      (f_spec_l1Byte x0 x1 x2).bind fun y2 =>
      (f_spec_l1Byte x0 y2.2.1 y2.2.2).bind fun y3 =>
      (f_spec_l1Byte x0 y3.2.1 y3.2.2).bind fun y4 =>
      (f_spec_l1Byte x0 y4.2.1 y4.2.2).bind fun y5 =>
      bif (decide (x3 = (0 : Int))) then none else
      some ((Int.tmod (IntKind.wrap .i64 ((IntKind.wrap .i64 ((IntKind.wrap .i64 ((IntKind.wrap .i64 (y2.1 * (16777216 : Int))) + (IntKind.wrap .i64 (y3.1 * (65536 : Int))))) + (IntKind.wrap .i64 (y4.1 * (256 : Int))))) + y5.1)) x3), y5.2.1, y5.2.2)
noncomputable def C119 : Con := ⟨[(.P [false, true, true], false, [(.sl R0), (.int .i64), (.int .i64)]), (.B, false, [(.int .i64)])], [(false, [(.int .i64)])], [(.sl R0), (.int .i64), (.int .i64), (.int .i64)], [(.int .i64), (.int .i64), (.int .i64)], fun (p : List Int × Int × Int × Int) => f_spec_l1Below p.1 p.2.1 p.2.2.1 p.2.2.2⟩
noncomputable abbrev K119 : Cons := [(159, C159)]
noncomputable abbrev L119 : List (Nat × Loops) := []
abbrev Q119 : List (Nat × List (Int × Nat) × Nat) := []
noncomputable abbrev X119 : Nat → Ctx := ctxOf tb K119 L119 Q119
theorem E119 : ∀ x, funG fs X119 6 119 C119 x = C119.fn x := fun x => by kernel_rfl
theorem B119 : ConG Try.prog 119 C119 := ConG.make FS MIX TY (cons := K119) (L := L119) (ptrs := Q119) ⟨S159, trivial⟩ trivial trivial rfl (by kernel_rfl) E119
theorem S119 : ConS Try.prog 119 C119 := B119.call (by kernel_rfl)
/-! spec.l1PickInt: function 116 -/
noncomputable def f_spec_l1PickInt (x0 : List Int) (x1 : Int) (x2 : Int) (x3 : List Int) : Option (Int × Int × Int) :=
  (f_spec_l1Below x0 x1 x2 (x3.length : Int)).bind fun y6 =>
  bif ((decide ((0 : Int) ≤ y6.1)) && (decide (y6.1 < (x3.length : Int)))) then
  some ((x3.getD y6.1.toNat 0), y6.2.1, y6.2.2)
  else none
noncomputable def C116 : Con := ⟨[(.P [false, true, true], false, [(.sl R0), (.int .i64), (.int .i64)]), (.B, false, [(.sl R1)])], [(false, [(.int .i64)])], [(.sl R0), (.int .i64), (.int .i64), (.sl R1)], [(.int .i64), (.int .i64), (.int .i64)], fun (p : List Int × Int × Int × List Int) => f_spec_l1PickInt p.1 p.2.1 p.2.2.1 p.2.2.2⟩
noncomputable abbrev K116 : Cons := [(119, C119)]
noncomputable abbrev L116 : List (Nat × Loops) := []
abbrev Q116 : List (Nat × List (Int × Nat) × Nat) := []
noncomputable abbrev X116 : Nat → Ctx := ctxOf tb K116 L116 Q116
theorem E116 : ∀ x, funG fs X116 6 116 C116 x = C116.fn x := fun x => by kernel_rfl
theorem B116 : ConG Try.prog 116 C116 := ConG.make FS MIX TY (cons := K116) (L := L116) (ptrs := Q116) ⟨S119, trivial⟩ trivial trivial rfl (by kernel_rfl) E116
theorem S116 : ConS Try.prog 116 C116 := B116.call (by kernel_rfl)
/-! spec.DrawPutNum: function 54 -/
noncomputable def f_spec_DrawPutNum.l0 : Nat → (List Int) → Int → Int → Option (List Int × Int)
  | 0, _, _, _ => none
  | n + 1, p7, p8, p9 =>
    bif (decide (p9 < (p7.length : Int))) then
      bif (decide (p9 < (4000 : Int))) then
        bif ((decide ((0 : Int) ≤ p9)) && (decide (p9 < (p7.length : Int)))) then
        f_spec_DrawPutNum.l0 n p7 (bitI .and .i64 (IntKind.wrap .i64 ((IntKind.wrap .i64 ((IntKind.wrap .i64 (p8 * (131 : Int))) + (IntKind.wrap .i64 ((p7.getD p9.toNat 0))))) + (7 : Int))) (1073741823 : Int)) (IntKind.wrap .i64 (p9 + (1 : Int)))
        else none
      else
        some (p7, p8)
    else
      some (p7, p8)
noncomputable def f_spec_DrawPutNum (x0 : List Int) : Option (Int) :=
  (f_spec_DrawPutNum.l0 N x0 (IntKind.wrap .i64 ((20404 : Int) + (x0.length : Int))) 0).bind fun r10 =>
  (f_spec_l1PickInt r10.1 0 r10.2 ([0, 1, 127, 128, 16383, 16384, 100000, 100001, -1] : List Int)).bind fun y11 =>
  some y11.1
noncomputable def C54 : Con := ⟨[(.B, false, [(.sl R0)])], [(false, [(.int .i64)])], [(.sl R0)], [(.int .i64)], fun (p : List Int) => f_spec_DrawPutNum p⟩
noncomputable def f_spec_DrawPutNum.l0.c : LoopCon := ⟨1097, 5, [0, 3, 4], ⟨[(0, .bor none R0 []), (3, .int .i64 0), (4, .int .i64 0)], [], 1097⟩, [(.sl R0), (.int .i64), (.int .i64)], [⟨.exit 0, [0, 3], ⟨[(0, .bor none R0 []), (3, .int .i64 0)], [], 1097⟩, [(.sl R0), (.int .i64)]⟩], fun (p : List Int × Int × Int) => f_spec_DrawPutNum.l0 N p.1 p.2.1 p.2.2⟩
noncomputable abbrev K54 : Cons := [(116, C116)]
noncomputable abbrev L54 : List (Nat × Loops) := [(117, [(3, f_spec_DrawPutNum.l0.c)])]
abbrev Q54 : List (Nat × List (Int × Nat) × Nat) := []
noncomputable abbrev X54 : Nat → Ctx := ctxOf tb K54 L54 Q54
theorem f_spec_DrawPutNum.l0.ok : ∀ n p, (fun (p : List Int × Int × Int) => f_spec_DrawPutNum.l0 n p.1 p.2.1 p.2.2) p = iterD (roundOf fs X54 5 117 3 true f_spec_DrawPutNum.l0.c) n p :=
  iter_of (l := fun n => fun (p : List Int × Int × Int) => f_spec_DrawPutNum.l0 n p.1 p.2.1 p.2.2) (fun _ => rfl) (fun n p => by kernel_rfl)
theorem E54 : ∀ x, funRun fs X54 6 54 C54 x = C54.fn x := fun x => by kernel_rfl
theorem B54 : ConB Try.prog 54 C54 := ConB.make FS MIX TY (cons := K54) (L := L54) (ptrs := Q54) ⟨S116, trivial⟩ trivial ⟨⟨⟨N, fun p => f_spec_DrawPutNum.l0.ok N p⟩, trivial⟩, trivial⟩ rfl rfl E54
theorem S54 : ConS Try.prog 54 C54 := B54.call rfl
/-! impl.from: function 118 -/
noncomputable def f_impl_from (x0 : Int) (x1 : Int) (x2 : Int) : Option (Bool) :=
  bif (decide (x1 ≤ x0)) then
    some (decide (x0 ≤ x2))
  else
    some false
noncomputable def C118 : Con := ⟨[(.B, false, [(.int .i64)]), (.B, false, [(.int .i64)]), (.B, false, [(.int .i64)])], [(false, [.bool])], [(.int .i64), (.int .i64), (.int .i64)], [.bool], fun (p : Int × Int × Int) => f_impl_from p.1 p.2.1 p.2.2⟩
noncomputable abbrev K118 : Cons := []
noncomputable abbrev L118 : List (Nat × Loops) := []
abbrev Q118 : List (Nat × List (Int × Nat) × Nat) := []
noncomputable abbrev X118 : Nat → Ctx := ctxOf tb K118 L118 Q118
theorem E118 : ∀ x, funRun fs X118 6 118 C118 x = C118.fn x := fun x => by kernel_rfl
theorem B118 : ConB Try.prog 118 C118 := ConB.make FS MIX TY (cons := K118) (L := L118) (ptrs := Q118) trivial trivial trivial rfl rfl E118
theorem S118 : ConS Try.prog 118 C118 := B118.call rfl
/-! impl.PutNum: function 55 -/
noncomputable def f_impl_PutNum.l0 : Nat → Int → (List Int) → Option (Int × List Int)
  | 0, _, _ => none
  | n + 1, p13, p14 =>
    bif (decide ((127 : Int) < p13)) then
      bif (Nat.blt (p14.length + ([(IntKind.wrap .u8 ((IntKind.wrap .i64 ((Int.tmod p13 (128 : Int)) + (128 : Int)))))] : List Int).length) 140737488355328) then
      (some ((p14 ++ ([(IntKind.wrap .u8 ((IntKind.wrap .i64 ((Int.tmod p13 (128 : Int)) + (128 : Int)))))] : List Int)) : List Int)).bind fun z15 =>
      f_impl_PutNum.l0 n (IntKind.wrap .i64 (Int.tdiv p13 (128 : Int))) z15
      else none
    else
      some (p13, p14)
noncomputable def f_impl_PutNum (x0 : Int) : Option (List Int) :=
  (f_impl_from x0 0 100000).bind fun y12 =>
  bif (!y12) then
    some []
  else
    (f_impl_PutNum.l0 N x0 ([] : List Int)).bind fun r16 =>
    bif (Nat.blt (r16.2.length + ([(IntKind.wrap .u8 (r16.1))] : List Int).length) 140737488355328) then
    (some ((r16.2 ++ ([(IntKind.wrap .u8 (r16.1))] : List Int)) : List Int)).bind fun z17 =>
    some z17
    else none
noncomputable def C55 : Con := ⟨[(.B, false, [(.int .i64)])], [(false, [(.sl R0)])], [(.int .i64)], [(.sl R0)], fun (p : Int) => f_impl_PutNum p⟩
noncomputable def f_impl_PutNum.l0.c : LoopCon := ⟨1000, 6, [0, 2, 3], ⟨[(0, .int .i64 0), (2, .nil (some R0)), (3, .ref 1000 [] none)], [(1000, .row R0 [])], 1001⟩, [(.int .i64), (.sl R0)], [⟨.exit 0, [0, 2, 3], ⟨[(0, .int .i64 0), (2, .nil (some R0)), (3, .ref 1000 [] none)], [(1000, .row R0 [])], 1001⟩, [(.int .i64), (.sl R0)]⟩], fun (p : Int × List Int) => f_impl_PutNum.l0 N p.1 p.2⟩
noncomputable abbrev K55 : Cons := [(118, C118)]
noncomputable abbrev L55 : List (Nat × Loops) := [(55, [(4, f_impl_PutNum.l0.c)])]
abbrev Q55 : List (Nat × List (Int × Nat) × Nat) := []
noncomputable abbrev X55 : Nat → Ctx := ctxOf tb K55 L55 Q55
theorem f_impl_PutNum.l0.ok : ∀ n p, (fun (p : Int × List Int) => f_impl_PutNum.l0 n p.1 p.2) p = iterD (roundOf fs X55 6 55 4 false f_impl_PutNum.l0.c) n p :=
  iter_of (l := fun n => fun (p : Int × List Int) => f_impl_PutNum.l0 n p.1 p.2) (fun _ => rfl) (fun n p => by kernel_rfl)
theorem E55 : ∀ x, funRun fs X55 6 55 C55 x = C55.fn x := fun x => by kernel_rfl
theorem B55 : ConB Try.prog 55 C55 := ConB.make FS MIX TY (cons := K55) (L := L55) (ptrs := Q55) ⟨S118, trivial⟩ trivial ⟨⟨⟨N, fun p => f_impl_PutNum.l0.ok N p⟩, trivial⟩, trivial⟩ rfl rfl E55
theorem S55 : ConS Try.prog 55 C55 := B55.call rfl
/-! spec.l1In: function 94 -/
noncomputable def f_spec_l1In (x0 : Int) (x1 : Int) (x2 : Int) : Option (Bool) :=
  bif (decide (x1 ≤ x0)) then
    some (decide (x0 ≤ x2))
  else
    some false
noncomputable def C94 : Con := ⟨[(.B, false, [(.int .i64)]), (.B, false, [(.int .i64)]), (.B, false, [(.int .i64)])], [(false, [.bool])], [(.int .i64), (.int .i64), (.int .i64)], [.bool], fun (p : Int × Int × Int) => f_spec_l1In p.1 p.2.1 p.2.2⟩
noncomputable abbrev K94 : Cons := []
noncomputable abbrev L94 : List (Nat × Loops) := []
abbrev Q94 : List (Nat × List (Int × Nat) × Nat) := []
noncomputable abbrev X94 : Nat → Ctx := ctxOf tb K94 L94 Q94
theorem E94 : ∀ x, funRun fs X94 6 94 C94 x = C94.fn x := fun x => by kernel_rfl
theorem B94 : ConB Try.prog 94 C94 := ConB.make FS MIX TY (cons := K94) (L := L94) (ptrs := Q94) trivial trivial trivial rfl rfl E94
theorem S94 : ConS Try.prog 94 C94 := B94.call rfl
/-! spec.PutNum: function 56 -/
noncomputable def f_spec_PutNum.l0 : Nat → Int → (List Int) → Option (Int × List Int)
  | 0, _, _ => none
  | n + 1, p19, p20 =>
    bif (decide ((127 : Int) < p19)) then
      bif (Nat.blt (p20.length + ([(IntKind.wrap .u8 ((IntKind.wrap .i64 ((Int.tmod p19 (128 : Int)) + (128 : Int)))))] : List Int).length) 140737488355328) then
      (some ((p20 ++ ([(IntKind.wrap .u8 ((IntKind.wrap .i64 ((Int.tmod p19 (128 : Int)) + (128 : Int)))))] : List Int)) : List Int)).bind fun z21 =>
      f_spec_PutNum.l0 n (IntKind.wrap .i64 (Int.tdiv p19 (128 : Int))) z21
      else none
    else
      some (p19, p20)
noncomputable def f_spec_PutNum (x0 : Int) : Option (List Int) :=
  (f_spec_l1In x0 0 100000).bind fun y18 =>
  bif (!y18) then
    some ([] : List Int)
  else
    (f_spec_PutNum.l0 N x0 ([] : List Int)).bind fun r22 =>
    bif (Nat.blt (r22.2.length + ([(IntKind.wrap .u8 (r22.1))] : List Int).length) 140737488355328) then
    (some ((r22.2 ++ ([(IntKind.wrap .u8 (r22.1))] : List Int)) : List Int)).bind fun z23 =>
    some z23
    else none
noncomputable def C56 : Con := ⟨[(.B, false, [(.int .i64)])], [(false, [(.sl R0)])], [(.int .i64)], [(.sl R0)], fun (p : Int) => f_spec_PutNum p⟩
noncomputable def f_spec_PutNum.l0.c : LoopCon := ⟨1000, 6, [0, 2, 3], ⟨[(0, .int .i64 0), (2, .nil (some R0)), (3, .ref 1000 [] none)], [(1000, .row R0 [])], 1001⟩, [(.int .i64), (.sl R0)], [⟨.exit 0, [0, 2, 3], ⟨[(0, .int .i64 0), (2, .nil (some R0)), (3, .ref 1000 [] none)], [(1000, .row R0 [])], 1001⟩, [(.int .i64), (.sl R0)]⟩], fun (p : Int × List Int) => f_spec_PutNum.l0 N p.1 p.2⟩
noncomputable abbrev K56 : Cons := [(94, C94)]
noncomputable abbrev L56 : List (Nat × Loops) := [(56, [(4, f_spec_PutNum.l0.c)])]
abbrev Q56 : List (Nat × List (Int × Nat) × Nat) := []
noncomputable abbrev X56 : Nat → Ctx := ctxOf tb K56 L56 Q56
theorem f_spec_PutNum.l0.ok : ∀ n p, (fun (p : Int × List Int) => f_spec_PutNum.l0 n p.1 p.2) p = iterD (roundOf fs X56 6 56 4 false f_spec_PutNum.l0.c) n p :=
  iter_of (l := fun n => fun (p : Int × List Int) => f_spec_PutNum.l0 n p.1 p.2) (fun _ => rfl) (fun n p => by kernel_rfl)
theorem E56 : ∀ x, funRun fs X56 6 56 C56 x = C56.fn x := fun x => by kernel_rfl
theorem B56 : ConB Try.prog 56 C56 := ConB.make FS MIX TY (cons := K56) (L := L56) (ptrs := Q56) ⟨S94, trivial⟩ trivial ⟨⟨⟨N, fun p => f_spec_PutNum.l0.ok N p⟩, trivial⟩, trivial⟩ rfl rfl E56
theorem S56 : ConS Try.prog 56 C56 := B56.call rfl
/-! laws.at: function 58 -/
noncomputable def f_laws_at (x0 : List Int) (x1 : Int) : Option (Int) :=
  bif (decide (x1 < (x0.length : Int))) then
    bif ((decide ((0 : Int) ≤ x1)) && (decide (x1 < (x0.length : Int)))) then
    some (IntKind.wrap .i64 ((x0.getD x1.toNat 0)))
    else none
  else
    some (Int.tmod (IntKind.wrap .i64 ((IntKind.wrap .i64 (x1 * (7 : Int))) + (x0.length : Int))) (256 : Int))
noncomputable def C58 : Con := ⟨[(.B, false, [(.sl R0)]), (.B, false, [(.int .i64)])], [(false, [(.int .i64)])], [(.sl R0), (.int .i64)], [(.int .i64)], fun (p : List Int × Int) => f_laws_at p.1 p.2⟩
noncomputable abbrev K58 : Cons := []
noncomputable abbrev L58 : List (Nat × Loops) := []
abbrev Q58 : List (Nat × List (Int × Nat) × Nat) := []
noncomputable abbrev X58 : Nat → Ctx := ctxOf tb K58 L58 Q58
theorem E58 : ∀ x, funRun fs X58 6 58 C58 x = C58.fn x := fun x => by kernel_rfl
theorem B58 : ConB Try.prog 58 C58 := ConB.make FS MIX TY (cons := K58) (L := L58) (ptrs := Q58) trivial trivial trivial rfl rfl E58
theorem S58 : ConS Try.prog 58 C58 := B58.call rfl
/-! impl.GetNum: function 57 -/
noncomputable def f_impl_GetNum.l0 : Nat → (List Int) → Int → Int → Int → Bool → Int → Int → Option ((Int × Int × Bool) ⊕ (Int × Int × Bool))
  | 0, _, _, _, _, _, _, _ => none
  | n + 1, p24, p25, p26, p27, p28, p29, p30 =>
    bif (decide (p30 < (3 : Int))) then
      bif (decide (p25 < (IntKind.wrap .i64 ((p24.length : Int) - p30)))) then
        bif ((decide ((0 : Int) ≤ (IntKind.wrap .i64 (p25 + p30)))) && (decide ((IntKind.wrap .i64 (p25 + p30)) < (p24.length : Int)))) then
        bif (decide ((IntKind.wrap .i64 ((7 : Int) * p30)) < (0 : Int))) then none else
        bif (decide ((128 : Int) ≤ (p24.getD (IntKind.wrap .i64 (p25 + p30)).toNat 0))) then
          f_impl_GetNum.l0 n p24 p25 p26 p27 p28 (IntKind.wrap .i64 (p29 + (shlI .i64 (IntKind.wrap .i64 ((Int.tmod (p24.getD (IntKind.wrap .i64 (p25 + p30)).toNat 0) (128 : Int)))) (IntKind.wrap .i64 ((7 : Int) * p30))))) (IntKind.wrap .i64 (p30 + (1 : Int)))
        else
          bif (decide ((100000 : Int) < (IntKind.wrap .i64 (p29 + (shlI .i64 (IntKind.wrap .i64 ((Int.tmod (p24.getD (IntKind.wrap .i64 (p25 + p30)).toNat 0) (128 : Int)))) (IntKind.wrap .i64 ((7 : Int) * p30))))))) then
            some (.inl (p26, p27, p28))
          else
            bif (decide ((p24.getD (IntKind.wrap .i64 (p25 + p30)).toNat 0) = (0 : Int))) then
              bif (decide ((0 : Int) < p30)) then
                some (.inl (p26, p27, p28))
              else
                some (.inr ((IntKind.wrap .i64 (p29 + (shlI .i64 (IntKind.wrap .i64 ((Int.tmod (p24.getD (IntKind.wrap .i64 (p25 + p30)).toNat 0) (128 : Int)))) (IntKind.wrap .i64 ((7 : Int) * p30))))), (IntKind.wrap .i64 ((IntKind.wrap .i64 (p25 + p30)) + (1 : Int))), true))
            else
              some (.inr ((IntKind.wrap .i64 (p29 + (shlI .i64 (IntKind.wrap .i64 ((Int.tmod (p24.getD (IntKind.wrap .i64 (p25 + p30)).toNat 0) (128 : Int)))) (IntKind.wrap .i64 ((7 : Int) * p30))))), (IntKind.wrap .i64 ((IntKind.wrap .i64 (p25 + p30)) + (1 : Int))), true))
        else none
      else
        some (.inl (p26, p27, p28))
    else
      some (.inl (p26, p27, p28))
noncomputable def f_impl_GetNum (x0 : List Int) (x1 : Int) : Option (Int × Int × Bool) :=
  bif (decide (x1 < (0 : Int))) then
    some (0, 0, false)
  else
    (f_impl_GetNum.l0 N x0 x1 0 0 false 0 0).bind fun r31 =>
    cs r31 (fun a32 =>
      some (0, 0, false)) (fun b33 =>
      some (b33.1, b33.2.1, b33.2.2))
noncomputable def C57 : Con := ⟨[(.B, false, [(.sl R0)]), (.B, false, [(.int .i64)])], [(false, [(.int .i64)]), (false, [(.int .i64)]), (false, [.bool])], [(.sl R0), (.int .i64)], [(.int .i64), (.int .i64), .bool], fun (p : List Int × Int) => f_impl_GetNum p.1 p.2⟩
noncomputable def f_impl_GetNum.l0.c : LoopCon := ⟨1000, 6, [0, 1, 4, 5, 6, 7, 8], ⟨[(0, .bor none R0 []), (1, .int .i64 0), (4, .int .i64 0), (5, .int .i64 0), (6, .bool false), (7, .int .i64 0), (8, .int .i64 0)], [], 1000⟩, [(.sl R0), (.int .i64), (.int .i64), (.int .i64), .bool, (.int .i64), (.int .i64)], [⟨.exit 0, [4, 5, 6], ⟨[(4, .int .i64 0), (5, .int .i64 0), (6, .bool false)], [], 1000⟩, [(.int .i64), (.int .i64), .bool]⟩, ⟨.ret, [4, 5, 6], ⟨[(4, .int .i64 0), (5, .int .i64 0), (6, .bool false)], [], 1000⟩, [(.int .i64), (.int .i64), .bool]⟩], fun (p : List Int × Int × Int × Int × Bool × Int × Int) => f_impl_GetNum.l0 N p.1 p.2.1 p.2.2.1 p.2.2.2.1 p.2.2.2.2.1 p.2.2.2.2.2.1 p.2.2.2.2.2.2⟩
noncomputable abbrev K57 : Cons := []
noncomputable abbrev L57 : List (Nat × Loops) := [(57, [(5, f_impl_GetNum.l0.c)])]
abbrev Q57 : List (Nat × List (Int × Nat) × Nat) := []
noncomputable abbrev X57 : Nat → Ctx := ctxOf tb K57 L57 Q57
theorem f_impl_GetNum.l0.ok : ∀ n p, (fun (p : List Int × Int × Int × Int × Bool × Int × Int) => f_impl_GetNum.l0 n p.1 p.2.1 p.2.2.1 p.2.2.2.1 p.2.2.2.2.1 p.2.2.2.2.2.1 p.2.2.2.2.2.2) p = iterD (roundOf fs X57 6 57 5 false f_impl_GetNum.l0.c) n p :=
  iter_of (l := fun n => fun (p : List Int × Int × Int × Int × Bool × Int × Int) => f_impl_GetNum.l0 n p.1 p.2.1 p.2.2.1 p.2.2.2.1 p.2.2.2.2.1 p.2.2.2.2.2.1 p.2.2.2.2.2.2) (fun _ => rfl) (fun n p => by kernel_rfl)
theorem E57 : ∀ x, funRun fs X57 6 57 C57 x = C57.fn x := fun x => by kernel_rfl
theorem B57 : ConB Try.prog 57 C57 := ConB.make FS MIX TY (cons := K57) (L := L57) (ptrs := Q57) trivial trivial ⟨⟨⟨N, fun p => f_impl_GetNum.l0.ok N p⟩, trivial⟩, trivial⟩ rfl rfl E57
theorem S57 : ConS Try.prog 57 C57 := B57.call rfl
/-! spec.l1Once: function 120 -/
noncomputable def f_spec_l1Once (x0 : List Int) (x1 : Int) (x2 : Int) (x3 : Int) : Option (Bool × Int × Int) :=
  (f_spec_l1Below x0 x1 x2 x3).bind fun y34 =>
  some ((decide (y34.1 = (0 : Int))), y34.2.1, y34.2.2)
noncomputable def C120 : Con := ⟨[(.P [false, true, true], false, [(.sl R0), (.int .i64), (.int .i64)]), (.B, false, [(.int .i64)])], [(false, [.bool])], [(.sl R0), (.int .i64), (.int .i64), (.int .i64)], [.bool, (.int .i64), (.int .i64)], fun (p : List Int × Int × Int × Int) => f_spec_l1Once p.1 p.2.1 p.2.2.1 p.2.2.2⟩
noncomputable abbrev K120 : Cons := [(119, C119)]
noncomputable abbrev L120 : List (Nat × Loops) := []
abbrev Q120 : List (Nat × List (Int × Nat) × Nat) := []
noncomputable abbrev X120 : Nat → Ctx := ctxOf tb K120 L120 Q120
theorem E120 : ∀ x, funG fs X120 6 120 C120 x = C120.fn x := fun x => by kernel_rfl
theorem B120 : ConG Try.prog 120 C120 := ConG.make FS MIX TY (cons := K120) (L := L120) (ptrs := Q120) ⟨S119, trivial⟩ trivial trivial rfl (by kernel_rfl) E120
theorem S120 : ConS Try.prog 120 C120 := B120.call (by kernel_rfl)
/-! spec.DrawGetNum: function 59 -/
noncomputable def f_spec_DrawGetNum.l1 : Nat → Int → Int → (List Int) → Int → Int → (List Int) → Option (Int × List Int × Int × Int × List Int)
  | 0, _, _, _, _, _, _ => none
  | n + 1, p39, p40, p41, p42, p43, p44 =>
    (f_spec_l1Below p41 p42 p43 4).bind fun y45 =>
    bif (decide (p40 < y45.1)) then
      (f_spec_l1PickInt p41 y45.2.1 y45.2.2 ([0, 127, 128, 16384, 100000] : List Int)).bind fun y46 =>
      (f_spec_PutNum y46.1).bind fun y47 =>
      bif (Nat.blt (p44.length + y47.length) 140737488355328) then
      (some ((p44 ++ y47) : List Int)).bind fun z48 =>
      f_spec_DrawGetNum.l1 n p39 (IntKind.wrap .i64 (p40 + (1 : Int))) p41 y46.2.1 y46.2.2 z48
      else none
    else
      some (p39, p41, y45.2.1, y45.2.2, p44)
noncomputable def f_spec_DrawGetNum.l0 : Nat → (List Int) → Int → Int → Option (List Int × Int)
  | 0, _, _, _ => none
  | n + 1, p35, p36, p37 =>
    bif (decide (p37 < (p35.length : Int))) then
      bif (decide (p37 < (4000 : Int))) then
        bif ((decide ((0 : Int) ≤ p37)) && (decide (p37 < (p35.length : Int)))) then
        f_spec_DrawGetNum.l0 n p35 (bitI .and .i64 (IntKind.wrap .i64 ((IntKind.wrap .i64 ((IntKind.wrap .i64 (p36 * (131 : Int))) + (IntKind.wrap .i64 ((p35.getD p37.toNat 0))))) + (7 : Int))) (1073741823 : Int)) (IntKind.wrap .i64 (p37 + (1 : Int)))
        else none
      else
        some (p35, p36)
    else
      some (p35, p36)
noncomputable def f_spec_DrawGetNum (x0 : List Int) : Option (List Int × Int) :=
  (f_spec_DrawGetNum.l0 N x0 (IntKind.wrap .i64 ((20404 : Int) + (x0.length : Int))) 0).bind fun r38 =>
  (f_spec_DrawGetNum.l1 N 0 0 r38.1 0 r38.2 ([] : List Int)).bind fun r49 =>
  (f_spec_l1Once r49.2.1 r49.2.2.1 r49.2.2.2.1 3).bind fun y50 =>
  bif y50.1 then
    (f_spec_l1PickInt r49.2.1 y50.2.1 y50.2.2 ([0, 128, 255] : List Int)).bind fun y51 =>
    (f_spec_l1Below r49.2.1 y51.2.1 y51.2.2 3).bind fun y52 =>
    bif (Nat.blt (r49.2.2.2.2.length + ([(IntKind.wrap .u8 (y51.1)), (IntKind.wrap .u8 (y52.1))] : List Int).length) 140737488355328) then
    (some ((r49.2.2.2.2 ++ ([(IntKind.wrap .u8 (y51.1)), (IntKind.wrap .u8 (y52.1))] : List Int)) : List Int)).bind fun z53 =>
    (f_spec_l1PickInt r49.2.1 y52.2.1 y52.2.2 ([0, 0, 1, (z53.length : Int), -1, 9223372036854775807] : List Int)).bind fun y54 =>
    some (z53, y54.1)
    else none
  else
    (f_spec_l1PickInt r49.2.1 y50.2.1 y50.2.2 ([0, 0, 1, (r49.2.2.2.2.length : Int), -1, 9223372036854775807] : List Int)).bind fun y55 =>
    some (r49.2.2.2.2, y55.1)
noncomputable def C59 : Con := ⟨[(.B, false, [(.sl R0)])], [(false, [(.sl R0)]), (false, [(.int .i64)])], [(.sl R0)], [(.sl R0), (.int .i64)], fun (p : List Int) => f_spec_DrawGetNum p⟩
noncomputable def f_spec_DrawGetNum.l0.c : LoopCon := ⟨1081, 5, [0, 3, 4], ⟨[(0, .bor none R0 []), (3, .int .i64 0), (4, .int .i64 0)], [], 1081⟩, [(.sl R0), (.int .i64), (.int .i64)], [⟨.exit 0, [0, 3], ⟨[(0, .bor none R0 []), (3, .int .i64 0)], [], 1081⟩, [(.sl R0), (.int .i64)]⟩], fun (p : List Int × Int × Int) => f_spec_DrawGetNum.l0 N p.1 p.2.1 p.2.2⟩
noncomputable def f_spec_DrawGetNum.l1.c : LoopCon := ⟨1000, 6, [2, 3, 4, 5, 6], ⟨[(2, .nil (some R0)), (3, .int .i64 0), (4, .ptr 1000 0), (5, .ref 1001 [] none), (6, .int .i64 0)], [(1000, .box [.bor none R0 [], .int .i64 0, .int .i64 0]), (1001, .row R0 [])], 1002⟩, [(.int .i64), (.int .i64), (.sl R0), (.int .i64), (.int .i64), (.sl R0)], [⟨.exit 0, [2, 3, 4, 5], ⟨[(2, .nil (some R0)), (3, .int .i64 0), (4, .ptr 1000 0), (5, .ref 1001 [] none)], [(1000, .box [.bor none R0 [], .int .i64 0, .int .i64 0]), (1001, .row R0 [])], 1002⟩, [(.int .i64), (.sl R0), (.int .i64), (.int .i64), (.sl R0)]⟩], fun (p : Int × Int × List Int × Int × Int × List Int) => f_spec_DrawGetNum.l1 N p.1 p.2.1 p.2.2.1 p.2.2.2.1 p.2.2.2.2.1 p.2.2.2.2.2⟩
noncomputable abbrev K59 : Cons := [(56, C56), (116, C116), (119, C119), (120, C120)]
noncomputable abbrev L59 : List (Nat × Loops) := [(117, [(3, f_spec_DrawGetNum.l0.c)]), (59, [(4, f_spec_DrawGetNum.l1.c)])]
abbrev Q59 : List (Nat × List (Int × Nat) × Nat) := []
noncomputable abbrev X59 : Nat → Ctx := ctxOf tb K59 L59 Q59
theorem f_spec_DrawGetNum.l0.ok : ∀ n p, (fun (p : List Int × Int × Int) => f_spec_DrawGetNum.l0 n p.1 p.2.1 p.2.2) p = iterD (roundOf fs X59 5 117 3 true f_spec_DrawGetNum.l0.c) n p :=
  iter_of (l := fun n => fun (p : List Int × Int × Int) => f_spec_DrawGetNum.l0 n p.1 p.2.1 p.2.2) (fun _ => rfl) (fun n p => by kernel_rfl)
theorem f_spec_DrawGetNum.l1.ok : ∀ n p, (fun (p : Int × Int × List Int × Int × Int × List Int) => f_spec_DrawGetNum.l1 n p.1 p.2.1 p.2.2.1 p.2.2.2.1 p.2.2.2.2.1 p.2.2.2.2.2) p = iterD (roundOf fs X59 6 59 4 false f_spec_DrawGetNum.l1.c) n p :=
  iter_of (l := fun n => fun (p : Int × Int × List Int × Int × Int × List Int) => f_spec_DrawGetNum.l1 n p.1 p.2.1 p.2.2.1 p.2.2.2.1 p.2.2.2.2.1 p.2.2.2.2.2) (fun _ => rfl) (fun n p => by kernel_rfl)
theorem E59 : ∀ x, funRun fs X59 6 59 C59 x = C59.fn x := fun x => by kernel_rfl
theorem B59 : ConB Try.prog 59 C59 := ConB.make FS MIX TY (cons := K59) (L := L59) (ptrs := Q59) ⟨S56, S116, S119, S120, trivial⟩ trivial ⟨⟨⟨N, fun p => f_spec_DrawGetNum.l0.ok N p⟩, trivial⟩, ⟨⟨N, fun p => f_spec_DrawGetNum.l1.ok N p⟩, trivial⟩, trivial⟩ rfl rfl E59
theorem S59 : ConS Try.prog 59 C59 := B59.call rfl
/-! spec.GetNum: function 60 -/
noncomputable def f_spec_GetNum.l0 : Nat → (List Int) → Int → Int → Int → Bool → Int → Int → Option ((Int × Int × Bool) ⊕ (Int × Int × Bool))
  | 0, _, _, _, _, _, _, _ => none
  | n + 1, p56, p57, p58, p59, p60, p61, p62 =>
    bif (decide (p62 < (3 : Int))) then
      bif (decide (p57 < (0 : Int))) then
        some (.inl (0, 0, false))
      else
        bif (decide ((IntKind.wrap .i64 ((p56.length : Int) - p62)) ≤ p57)) then
          some (.inl (0, 0, false))
        else
          bif ((decide ((0 : Int) ≤ (IntKind.wrap .i64 (p57 + p62)))) && (decide ((IntKind.wrap .i64 (p57 + p62)) < (p56.length : Int)))) then
          bif (decide ((IntKind.wrap .i64 ((7 : Int) * p62)) < (0 : Int))) then none else
          bif (decide ((IntKind.wrap .i64 ((p56.getD (IntKind.wrap .i64 (p57 + p62)).toNat 0))) < (128 : Int))) then
            bif (decide ((0 : Int) < p62)) then
              bif (decide ((IntKind.wrap .i64 ((p56.getD (IntKind.wrap .i64 (p57 + p62)).toNat 0))) = (0 : Int))) then
                some (.inl (0, 0, false))
              else
                bif (decide ((100000 : Int) < (bitI .or .i64 p61 (shlI .i64 (Int.tmod (IntKind.wrap .i64 ((p56.getD (IntKind.wrap .i64 (p57 + p62)).toNat 0))) (128 : Int)) (IntKind.wrap .i64 ((7 : Int) * p62)))))) then
                  some (.inl (0, 0, false))
                else
                  some (.inl ((bitI .or .i64 p61 (shlI .i64 (Int.tmod (IntKind.wrap .i64 ((p56.getD (IntKind.wrap .i64 (p57 + p62)).toNat 0))) (128 : Int)) (IntKind.wrap .i64 ((7 : Int) * p62)))), (IntKind.wrap .i64 ((IntKind.wrap .i64 (p57 + p62)) + (1 : Int))), true))
            else
              bif (decide ((100000 : Int) < (bitI .or .i64 p61 (shlI .i64 (Int.tmod (IntKind.wrap .i64 ((p56.getD (IntKind.wrap .i64 (p57 + p62)).toNat 0))) (128 : Int)) (IntKind.wrap .i64 ((7 : Int) * p62)))))) then
                some (.inl (0, 0, false))
              else
                some (.inl ((bitI .or .i64 p61 (shlI .i64 (Int.tmod (IntKind.wrap .i64 ((p56.getD (IntKind.wrap .i64 (p57 + p62)).toNat 0))) (128 : Int)) (IntKind.wrap .i64 ((7 : Int) * p62)))), (IntKind.wrap .i64 ((IntKind.wrap .i64 (p57 + p62)) + (1 : Int))), true))
          else
            f_spec_GetNum.l0 n p56 p57 p58 p59 p60 (bitI .or .i64 p61 (shlI .i64 (Int.tmod (IntKind.wrap .i64 ((p56.getD (IntKind.wrap .i64 (p57 + p62)).toNat 0))) (128 : Int)) (IntKind.wrap .i64 ((7 : Int) * p62)))) (IntKind.wrap .i64 (p62 + (1 : Int)))
          else none
    else
      some (.inr (p58, p59, p60))
noncomputable def f_spec_GetNum (x0 : List Int) (x1 : Int) : Option (Int × Int × Bool) :=
  (f_spec_GetNum.l0 N x0 x1 0 0 false 0 0).bind fun r63 =>
  cs r63 (fun a64 =>
    some (a64.1, a64.2.1, a64.2.2)) (fun b65 =>
    some (0, 0, false))
noncomputable def C60 : Con := ⟨[(.B, false, [(.sl R0)]), (.B, false, [(.int .i64)])], [(false, [(.int .i64)]), (false, [(.int .i64)]), (false, [.bool])], [(.sl R0), (.int .i64)], [(.int .i64), (.int .i64), .bool], fun (p : List Int × Int) => f_spec_GetNum p.1 p.2⟩
noncomputable def f_spec_GetNum.l0.c : LoopCon := ⟨1000, 6, [0, 1, 4, 5, 6, 7, 8], ⟨[(0, .bor none R0 []), (1, .int .i64 0), (4, .int .i64 0), (5, .int .i64 0), (6, .bool false), (7, .int .i64 0), (8, .int .i64 0)], [], 1000⟩, [(.sl R0), (.int .i64), (.int .i64), (.int .i64), .bool, (.int .i64), (.int .i64)], [⟨.ret, [4, 5, 6], ⟨[(4, .int .i64 0), (5, .int .i64 0), (6, .bool false)], [], 1000⟩, [(.int .i64), (.int .i64), .bool]⟩, ⟨.exit 0, [4, 5, 6], ⟨[(4, .int .i64 0), (5, .int .i64 0), (6, .bool false)], [], 1000⟩, [(.int .i64), (.int .i64), .bool]⟩], fun (p : List Int × Int × Int × Int × Bool × Int × Int) => f_spec_GetNum.l0 N p.1 p.2.1 p.2.2.1 p.2.2.2.1 p.2.2.2.2.1 p.2.2.2.2.2.1 p.2.2.2.2.2.2⟩
noncomputable abbrev K60 : Cons := []
noncomputable abbrev L60 : List (Nat × Loops) := [(60, [(3, f_spec_GetNum.l0.c)])]
abbrev Q60 : List (Nat × List (Int × Nat) × Nat) := []
noncomputable abbrev X60 : Nat → Ctx := ctxOf tb K60 L60 Q60
theorem f_spec_GetNum.l0.ok : ∀ n p, (fun (p : List Int × Int × Int × Int × Bool × Int × Int) => f_spec_GetNum.l0 n p.1 p.2.1 p.2.2.1 p.2.2.2.1 p.2.2.2.2.1 p.2.2.2.2.2.1 p.2.2.2.2.2.2) p = iterD (roundOf fs X60 6 60 3 false f_spec_GetNum.l0.c) n p :=
  iter_of (l := fun n => fun (p : List Int × Int × Int × Int × Bool × Int × Int) => f_spec_GetNum.l0 n p.1 p.2.1 p.2.2.1 p.2.2.2.1 p.2.2.2.2.1 p.2.2.2.2.2.1 p.2.2.2.2.2.2) (fun _ => rfl) (fun n p => by kernel_rfl)
theorem E60 : ∀ x, funRun fs X60 6 60 C60 x = C60.fn x := fun x => by kernel_rfl
theorem B60 : ConB Try.prog 60 C60 := ConB.make FS MIX TY (cons := K60) (L := L60) (ptrs := Q60) trivial trivial ⟨⟨⟨N, fun p => f_spec_GetNum.l0.ok N p⟩, trivial⟩, trivial⟩ rfl rfl E60
theorem S60 : ConS Try.prog 60 C60 := B60.call rfl
/-! laws.FnNums: function 9 -/
noncomputable def f_laws_FnNums (x0 : List Int) : Option (Bool) :=
  (f_laws_big x0).bind fun y66 =>
  bif y66 then
    some true
  else
    (f_spec_DrawPutNum x0).bind fun y67 =>
    (f_impl_PutNum y67).bind fun y68 =>
    (f_spec_PutNum y67).bind fun y69 =>
    bif (!((bytesOfRows y68).toList == (bytesOfRows y69).toList)) then
      some false
    else
      bif (Nat.blt (([] : List Int).length + y68.length) 140737488355328) then
      (some ((([] : List Int) ++ y68) : List Int)).bind fun z70 =>
      (f_laws_at x0 1).bind fun y71 =>
      bif (Nat.blt (z70.length + ([(IntKind.wrap .u8 (y71))] : List Int).length) 140737488355328) then
      (some ((z70 ++ ([(IntKind.wrap .u8 (y71))] : List Int)) : List Int)).bind fun z72 =>
      (f_impl_GetNum z72 0).bind fun y73 =>
      bif (decide ((0 : Int) < (y68.length : Int))) then
        bif (!y73.2.2) then
          some false
        else
          bif (!(decide (y73.1 = y67))) then
            some false
          else
            bif (!(decide (y73.2.1 = (y68.length : Int)))) then
              some false
            else
              (f_spec_DrawGetNum x0).bind fun y74 =>
              (f_impl_GetNum y74.1 y74.2).bind fun y75 =>
              (f_spec_GetNum y74.1 y74.2).bind fun y76 =>
              bif (y75.2.2 == y76.2.2) then
                bif (decide (y75.2.1 = y76.2.1)) then
                  bif (!y75.2.2) then
                    bif (decide (y75.1 = (0 : Int))) then
                      some true
                    else
                      bif y75.2.2 then
                        (f_impl_PutNum y75.1).bind fun y77 =>
                        bif ((decide ((0 : Int) ≤ y74.2)) && ((decide (y74.2 ≤ y75.2.1)) && (decide (y75.2.1 ≤ (y74.1.length : Int))))) then
                        some ((bytesOfRows y77).toList == (bytesOfRows ((y74.1.drop y74.2.toNat).take (y75.2.1 - y74.2).toNat)).toList)
                        else none
                      else
                        some false
                  else
                    bif y75.2.2 then
                      (f_impl_PutNum y75.1).bind fun y78 =>
                      bif ((decide ((0 : Int) ≤ y74.2)) && ((decide (y74.2 ≤ y75.2.1)) && (decide (y75.2.1 ≤ (y74.1.length : Int))))) then
                      some ((bytesOfRows y78).toList == (bytesOfRows ((y74.1.drop y74.2.toNat).take (y75.2.1 - y74.2).toNat)).toList)
                      else none
                    else
                      some false
                else
                  some false
              else
                some false
      else
        (f_spec_DrawGetNum x0).bind fun y79 =>
        (f_impl_GetNum y79.1 y79.2).bind fun y80 =>
        (f_spec_GetNum y79.1 y79.2).bind fun y81 =>
        bif (y80.2.2 == y81.2.2) then
          bif (decide (y80.2.1 = y81.2.1)) then
            bif (!y80.2.2) then
              bif (decide (y80.1 = (0 : Int))) then
                some true
              else
                bif y80.2.2 then
                  (f_impl_PutNum y80.1).bind fun y82 =>
                  bif ((decide ((0 : Int) ≤ y79.2)) && ((decide (y79.2 ≤ y80.2.1)) && (decide (y80.2.1 ≤ (y79.1.length : Int))))) then
                  some ((bytesOfRows y82).toList == (bytesOfRows ((y79.1.drop y79.2.toNat).take (y80.2.1 - y79.2).toNat)).toList)
                  else none
                else
                  some false
            else
              bif y80.2.2 then
                (f_impl_PutNum y80.1).bind fun y83 =>
                bif ((decide ((0 : Int) ≤ y79.2)) && ((decide (y79.2 ≤ y80.2.1)) && (decide (y80.2.1 ≤ (y79.1.length : Int))))) then
                some ((bytesOfRows y83).toList == (bytesOfRows ((y79.1.drop y79.2.toNat).take (y80.2.1 - y79.2).toNat)).toList)
                else none
              else
                some false
          else
            some false
        else
          some false
      else none
      else none
noncomputable def C9 : Con := ⟨[(.B, false, [(.sl R0)])], [(false, [.bool])], [(.sl R0)], [.bool], fun (p : List Int) => f_laws_FnNums p⟩
noncomputable abbrev K9 : Cons := [(53, C53), (54, C54), (55, C55), (56, C56), (57, C57), (58, C58), (59, C59), (60, C60)]
noncomputable abbrev L9 : List (Nat × Loops) := []
abbrev Q9 : List (Nat × List (Int × Nat) × Nat) := []
noncomputable abbrev X9 : Nat → Ctx := ctxOf tb K9 L9 Q9
theorem E9 : ∀ x, funRun fs X9 6 9 C9 x = C9.fn x := fun x => by kernel_rfl
theorem B9 : ConB Try.prog 9 C9 := ConB.make FS MIX TY (cons := K9) (L := L9) (ptrs := Q9) ⟨S53, S54, S55, S56, S57, S58, S59, S60, trivial⟩ trivial trivial rfl rfl E9
theorem S9 : ConS Try.prog 9 C9 := B9.call rfl
/-- What is left: the plain law. -/
def Pure : Prop := ∀ x : Tup [(.sl R0)], WfT [(.sl R0)] x → C9.fn x = some (true : Bool)
end
end Go.Abs
