import Derived.Test.YtgifligfbjnmfaaProg
import Derived.Test.YtgifligfbjnmfaaAbsD
import Derived.KernelRfl
namespace Go.Abs
open Go.Proofs
set_option linter.unusedVariables false
set_option maxRecDepth 100000
noncomputable section
abbrev N : Nat := 1152921504606846976
abbrev R0 : RT := .one (.int .u8)
abbrev R1 : RT := .one (.int .i64)
noncomputable def tb : Tb := [(0, ⟨false, [], [], 0, 0⟩),
  (3, ⟨false, [(.int .i64)], [], 0, 8⟩),
  (4, ⟨false, [.bool], [], 0, 1⟩),
  (5, ⟨false, [(.int .u8)], [], 0, 1⟩),
  (9, ⟨false, [.str], [], 0, 16⟩),
  (22, ⟨false, [(.sl R1)], [], 3, 24⟩),
  (26, ⟨false, [(.sl R0)], [], 5, 24⟩),
  (28, ⟨true, [(.int .i64), (.int .i64), .bool, (.sl R1)], [(0, 3), (1, 3), (2, 4), (3, 22)], 0, 48⟩),
  (55, ⟨false, [], [], 0, 0⟩),
  (78, ⟨false, [], [], 0, 0⟩),
  (119, ⟨false, [], [], 0, 8⟩)]
noncomputable def fsL : List (Nat × Func) := [(40, Try.f40), (60, Try.f60), (94, Try.f94), (112, Try.f112), (91, Try.f91), (56, Try.f56), (92, Try.f92), (15, Try.f15), (39, Try.f39), (57, Try.f57), (118, Try.f118), (157, Try.f157), (109, Try.f109), (163, Try.f163), (181, Try.f181), (162, Try.f162), (125, Try.f125), (93, Try.f93), (55, Try.f55), (17, Try.f17), (102, Try.f102), (41, Try.f41), (27, Try.f27), (19, Try.f19), (18, Try.f18), (21, Try.f21), (28, Try.f28), (20, Try.f20), (52, Try.f52), (38, Try.f38), (6, Try.f6)]
noncomputable def fs : Nat → Option Func := getF fsL
theorem MIX : Try.prog.follows .mixedOrders = true := by kernel_rfl
theorem TY : tyCheck Try.prog tb = true := by kernel_rfl
theorem CAT : catCheck tb = true := by kernel_rfl
theorem FSP : FsP Try.prog fsL := ⟨Try.func40, Try.func60, Try.func94, Try.func112, Try.func91, Try.func56, Try.func92, Try.func15, Try.func39, Try.func57, Try.func118, Try.func157, Try.func109, Try.func163, Try.func181, Try.func162, Try.func125, Try.func93, Try.func55, Try.func17, Try.func102, Try.func41, Try.func27, Try.func19, Try.func18, Try.func21, Try.func28, Try.func20, Try.func52, Try.func38, Try.func6, trivial⟩
theorem FSC : (fsL.all fun p => fnChk p.2) = true := by kernel_rfl
theorem FS : FsS Try.prog fs := FsS.of FSP FSC
/-! laws.toByteS: function 40 -/
noncomputable def f_laws_toByteS.l0 : Nat → (List Int) → Int → (List Int) → Option (List Int)
  | 0, _, _, _ => none
  | n + 1, p1, p2, p3 =>
    bif (decide (p2 < (p1.length : Int))) then
      bif ((decide ((0 : Int) ≤ p2)) && (decide (p2 < (p1.length : Int)))) then
      bif ((decide ((0 : Int) ≤ p2)) && (decide (p2 < (p3.length : Int)))) then
      (some ((p3.set p2.toNat (p1.getD p2.toNat 0)) : List Int)).bind fun z4 =>
      f_laws_toByteS.l0 n p1 (IntKind.wrap .i64 (p2 + (1 : Int))) z4
      else none
      else none
    else
      some p3
noncomputable def f_laws_toByteS (x0 : List Int) : Option (List Int) :=
  bif (decide ((0 : Int) ≤ (x0.length : Int)) && Nat.ble (x0.length : Int).toNat 140737488355328) then
  (f_laws_toByteS.l0 N x0 0 (List.replicate (x0.length : Int).toNat 0)).bind fun r5 =>
  some r5
  else none
noncomputable def C40 : Con := ⟨[(.B, false, [(.sl R0)])], [(false, [(.sl R0)])], [(.sl R0)], [(.sl R0)], fun (p : List Int) => f_laws_toByteS p⟩
noncomputable def f_laws_toByteS.l0.c : LoopCon := ⟨1000, 6, [0, 2, 3, 4], ⟨[(0, .bor none R0 []), (2, .nil (some R0)), (3, .ref 1000 [] none), (4, .int .i64 0)], [(1000, .row R0 [])], 1001⟩, [(.sl R0), (.int .i64), (.sl R0)], [⟨.exit 0, [2, 3], ⟨[(2, .nil (some R0)), (3, .ref 1000 [] none)], [(1000, .row R0 [])], 1001⟩, [(.sl R0)]⟩], fun (p : List Int × Int × List Int) => f_laws_toByteS.l0 N p.1 p.2.1 p.2.2⟩
noncomputable abbrev K40 : Cons := []
noncomputable abbrev L40 : List (Nat × Loops) := [(40, [(3, f_laws_toByteS.l0.c)])]
abbrev Q40 : List (Nat × List (Int × Nat) × Nat) := []
noncomputable abbrev X40 : Nat → Ctx := ctxOf tb K40 L40 Q40
theorem f_laws_toByteS.l0.ok : ∀ n p, (fun (p : List Int × Int × List Int) => f_laws_toByteS.l0 n p.1 p.2.1 p.2.2) p = iterD (roundOf fs X40 6 40 3 false f_laws_toByteS.l0.c) n p :=
  iter_of (l := fun n => fun (p : List Int × Int × List Int) => f_laws_toByteS.l0 n p.1 p.2.1 p.2.2) (fun _ => rfl) (fun n p => by kernel_rfl)
theorem E40 : ∀ x, funRun fs X40 6 40 C40 x = C40.fn x := fun x => by kernel_rfl
theorem B40 : ConB Try.prog 40 C40 := ConB.make FS MIX TY (cons := K40) (L := L40) (ptrs := Q40) trivial trivial ⟨⟨⟨N, fun p => f_laws_toByteS.l0.ok N p⟩, trivial⟩, trivial⟩ rfl rfl E40
theorem S40 : ConS Try.prog 40 C40 := B40.call rfl
/-! spec.GetNum: function 60 -/
noncomputable def f_spec_GetNum.l0 : Nat → (List Int) → Int → Int → Int → Bool → Int → Int → Option ((Int × Int × Bool) ⊕ (Int × Int × Bool))
  | 0, _, _, _, _, _, _, _ => none
  | n + 1, p6, p7, p8, p9, p10, p11, p12 =>
    bif (decide (p12 < (3 : Int))) then
      bif (decide (p7 < (0 : Int))) then
        some (.inl (0, 0, false))
      else
        bif (decide ((IntKind.wrap .i64 ((p6.length : Int) - p12)) ≤ p7)) then
          some (.inl (0, 0, false))
        else
          bif ((decide ((0 : Int) ≤ (IntKind.wrap .i64 (p7 + p12)))) && (decide ((IntKind.wrap .i64 (p7 + p12)) < (p6.length : Int)))) then
          bif (decide ((IntKind.wrap .i64 ((7 : Int) * p12)) < (0 : Int))) then none else
          bif (decide ((IntKind.wrap .i64 ((p6.getD (IntKind.wrap .i64 (p7 + p12)).toNat 0))) < (128 : Int))) then
            bif (decide ((0 : Int) < p12)) then
              bif (decide ((IntKind.wrap .i64 ((p6.getD (IntKind.wrap .i64 (p7 + p12)).toNat 0))) = (0 : Int))) then
                some (.inl (0, 0, false))
              else
                bif (decide ((100000 : Int) < (bitI .or .i64 p11 (shlI .i64 (Int.tmod (IntKind.wrap .i64 ((p6.getD (IntKind.wrap .i64 (p7 + p12)).toNat 0))) (128 : Int)) (IntKind.wrap .i64 ((7 : Int) * p12)))))) then
                  some (.inl (0, 0, false))
                else
                  some (.inl ((bitI .or .i64 p11 (shlI .i64 (Int.tmod (IntKind.wrap .i64 ((p6.getD (IntKind.wrap .i64 (p7 + p12)).toNat 0))) (128 : Int)) (IntKind.wrap .i64 ((7 : Int) * p12)))), (IntKind.wrap .i64 ((IntKind.wrap .i64 (p7 + p12)) + (1 : Int))), true))
            else
              bif (decide ((100000 : Int) < (bitI .or .i64 p11 (shlI .i64 (Int.tmod (IntKind.wrap .i64 ((p6.getD (IntKind.wrap .i64 (p7 + p12)).toNat 0))) (128 : Int)) (IntKind.wrap .i64 ((7 : Int) * p12)))))) then
                some (.inl (0, 0, false))
              else
                some (.inl ((bitI .or .i64 p11 (shlI .i64 (Int.tmod (IntKind.wrap .i64 ((p6.getD (IntKind.wrap .i64 (p7 + p12)).toNat 0))) (128 : Int)) (IntKind.wrap .i64 ((7 : Int) * p12)))), (IntKind.wrap .i64 ((IntKind.wrap .i64 (p7 + p12)) + (1 : Int))), true))
          else
            f_spec_GetNum.l0 n p6 p7 p8 p9 p10 (bitI .or .i64 p11 (shlI .i64 (Int.tmod (IntKind.wrap .i64 ((p6.getD (IntKind.wrap .i64 (p7 + p12)).toNat 0))) (128 : Int)) (IntKind.wrap .i64 ((7 : Int) * p12)))) (IntKind.wrap .i64 (p12 + (1 : Int)))
          else none
    else
      some (.inr (p8, p9, p10))
noncomputable def f_spec_GetNum (x0 : List Int) (x1 : Int) : Option (Int × Int × Bool) :=
  (f_spec_GetNum.l0 N x0 x1 0 0 false 0 0).bind fun r13 =>
  cs r13 (fun a14 =>
    some (a14.1, a14.2.1, a14.2.2)) (fun b15 =>
    some (0, 0, false))
noncomputable def C60 : Con := ⟨[(.B, false, [(.sl R0)]), (.B, false, [(.int .i64)])], [(false, [(.int .i64)]), (false, [(.int .i64)]), (false, [.bool])], [(.sl R0), (.int .i64)], [(.int .i64), (.int .i64), .bool], fun (p : List Int × Int) => f_spec_GetNum p.1 p.2⟩
noncomputable def f_spec_GetNum.l0.c : LoopCon := ⟨1000, 6, [0, 1, 4, 5, 6, 7, 8], ⟨[(0, .bor none R0 []), (1, .int .i64 0), (4, .int .i64 0), (5, .int .i64 0), (6, .bool false), (7, .int .i64 0), (8, .int .i64 0)], [], 1000⟩, [(.sl R0), (.int .i64), (.int .i64), (.int .i64), .bool, (.int .i64), (.int .i64)], [⟨.ret, [4, 5, 6], ⟨[(4, .int .i64 0), (5, .int .i64 0), (6, .bool false)], [], 1000⟩, [(.int .i64), (.int .i64), .bool]⟩, ⟨.exit 0, [4, 5, 6], ⟨[(4, .int .i64 0), (5, .int .i64 0), (6, .bool false)], [], 1000⟩, [(.int .i64), (.int .i64), .bool]⟩], fun (p : List Int × Int × Int × Int × Bool × Int × Int) => f_spec_GetNum.l0 N p.1 p.2.1 p.2.2.1 p.2.2.2.1 p.2.2.2.2.1 p.2.2.2.2.2.1 p.2.2.2.2.2.2⟩
noncomputable abbrev K60 : Cons := []
noncomputable abbrev L60 : List (Nat × Loops) := [(60, [(3, f_spec_GetNum.l0.c)])]
abbrev Q60 : List (Nat × List (Int × Nat) × Nat) := []
noncomputable abbrev X60 : Nat → Ctx := ctxOf tb K60 L60 Q60
theorem f_spec_GetNum.l0.ok : ∀ n p, (fun (p : List Int × Int × Int × Int × Bool × Int × Int) => f_spec_GetNum.l0 n p.1 p.2.1 p.2.2.1 p.2.2.2.1 p.2.2.2.2.1 p.2.2.2.2.2.1 p.2.2.2.2.2.2) p = iterD (roundOf fs X60 6 60 3 false f_spec_GetNum.l0.c) n p :=
  iter_of (l := fun n => fun (p : List Int × Int × Int × Int × Bool × Int × Int) => f_spec_GetNum.l0 n p.1 p.2.1 p.2.2.1 p.2.2.2.1 p.2.2.2.2.1 p.2.2.2.2.2.1 p.2.2.2.2.2.2) (fun _ => rfl) (fun n p => by kernel_rfl)
theorem E60 : ∀ x, funRun fs X60 6 60 C60 x = C60.fn x := fun x => by kernel_rfl
theorem B60 : ConB Try.prog 60 C60 := ConB.make FS MIX TY (cons := K60) (L := L60) (ptrs := Q60) trivial trivial ⟨⟨⟨N, fun p => f_spec_GetNum.l0.ok N p⟩, trivial⟩, trivial⟩ rfl rfl E60
theorem S60 : ConS Try.prog 60 C60 := B60.call rfl
/-! spec.l1In: function 94 -/
noncomputable def f_spec_l1In (x0 : Int) (x1 : Int) (x2 : Int) : Option (Bool) :=
  bif (decide (x1 ≤ x0)) then
    some (decide (x0 ≤ x2))
  else
    some false
noncomputable def C94 : Con := ⟨[(.B, false, [(.int .i64)]), (.B, false, [(.int .i64)]), (.B, false, [(.int .i64)])], [(false, [.bool])], [(.int .i64), (.int .i64), (.int .i64)], [.bool], fun (p : Int × Int × Int) => f_spec_l1In p.1 p.2.1 p.2.2⟩
noncomputable abbrev K94 : Cons := []
noncomputable abbrev L94 : List (Nat × Loops) := []
abbrev Q94 : List (Nat × List (Int × Nat) × Nat) := []
noncomputable abbrev X94 : Nat → Ctx := ctxOf tb K94 L94 Q94
theorem E94 : ∀ x, funRun fs X94 6 94 C94 x = C94.fn x := fun x => by kernel_rfl
theorem B94 : ConB Try.prog 94 C94 := ConB.make FS MIX TY (cons := K94) (L := L94) (ptrs := Q94) trivial trivial trivial rfl rfl E94
theorem S94 : ConS Try.prog 94 C94 := B94.call rfl
/-! spec.l1Words: function 112 -/
noncomputable def f_spec_l1Words.l0 : Nat → (List Int) → Int → Bool → Int → Option ((Bool) ⊕ (List Int × Int × Bool))
  | 0, _, _, _, _ => none
  | n + 1, p16, p17, p18, p19 =>
    bif (decide (p19 < (p16.length : Int))) then
      bif ((decide ((0 : Int) ≤ p19)) && (decide (p19 < (p16.length : Int)))) then
      (f_spec_l1In (p16.getD p19.toNat 0) 0 65535).bind fun y20 =>
      bif (!y20) then
        some (.inl false)
      else
        f_spec_l1Words.l0 n p16 p17 p18 (IntKind.wrap .i64 (p19 + (1 : Int)))
      else none
    else
      some (.inr (p16, p17, p18))
noncomputable def f_spec_l1Words (x0 : List Int) (x1 : Int) : Option (Bool) :=
  (f_spec_l1Words.l0 N x0 x1 false 0).bind fun r21 =>
  cs r21 (fun a22 =>
    some a22) (fun b23 =>
    some (decide ((b23.1.length : Int) = b23.2.1)))
noncomputable def C112 : Con := ⟨[(.B, false, [(.sl R1)]), (.B, false, [(.int .i64)])], [(false, [.bool])], [(.sl R1), (.int .i64)], [.bool], fun (p : List Int × Int) => f_spec_l1Words p.1 p.2⟩
noncomputable def f_spec_l1Words.l0.c : LoopCon := ⟨1000, 6, [0, 1, 4, 5], ⟨[(0, .bor none R1 []), (1, .int .i64 0), (4, .bool false), (5, .int .i64 0)], [], 1000⟩, [(.sl R1), (.int .i64), .bool, (.int .i64)], [⟨.ret, [4], ⟨[(4, .bool false)], [], 1000⟩, [.bool]⟩, ⟨.exit 0, [0, 1, 4], ⟨[(0, .bor none R1 []), (1, .int .i64 0), (4, .bool false)], [], 1000⟩, [(.sl R1), (.int .i64), .bool]⟩], fun (p : List Int × Int × Bool × Int) => f_spec_l1Words.l0 N p.1 p.2.1 p.2.2.1 p.2.2.2⟩
noncomputable abbrev K112 : Cons := [(94, C94)]
noncomputable abbrev L112 : List (Nat × Loops) := [(112, [(2, f_spec_l1Words.l0.c)])]
abbrev Q112 : List (Nat × List (Int × Nat) × Nat) := []
noncomputable abbrev X112 : Nat → Ctx := ctxOf tb K112 L112 Q112
theorem f_spec_l1Words.l0.ok : ∀ n p, (fun (p : List Int × Int × Bool × Int) => f_spec_l1Words.l0 n p.1 p.2.1 p.2.2.1 p.2.2.2) p = iterD (roundOf fs X112 6 112 2 false f_spec_l1Words.l0.c) n p :=
  iter_of (l := fun n => fun (p : List Int × Int × Bool × Int) => f_spec_l1Words.l0 n p.1 p.2.1 p.2.2.1 p.2.2.2) (fun _ => rfl) (fun n p => by kernel_rfl)
theorem E112 : ∀ x, funRun fs X112 6 112 C112 x = C112.fn x := fun x => by kernel_rfl
theorem B112 : ConB Try.prog 112 C112 := ConB.make FS MIX TY (cons := K112) (L := L112) (ptrs := Q112) ⟨S94, trivial⟩ trivial ⟨⟨⟨N, fun p => f_spec_l1Words.l0.ok N p⟩, trivial⟩, trivial⟩ rfl rfl E112
theorem S112 : ConS Try.prog 112 C112 := B112.call rfl
/-! spec.MsgOk: function 91 -/
noncomputable def f_spec_MsgOk (x0 : Int) (x1 : Int) (x2 : Bool) (x3 : List Int) : Option (Bool) :=
  bif (decide (x0 = (3 : Int))) then
    bif (decide (x0 = (3 : Int))) then
      (f_spec_l1In x0 1 7).bind fun y24 =>
      bif y24 then
        (f_spec_l1In x1 0 5).bind fun y25 =>
        bif y25 then
          (f_spec_l1Words x3 4).bind fun y26 =>
          some y26
        else
          some false
      else
        some false
    else
      (f_spec_l1In x0 1 7).bind fun y27 =>
      bif y27 then
        (f_spec_l1In x1 0 5).bind fun y28 =>
        bif y28 then
          bif (decide (x0 = (6 : Int))) then
            (f_spec_l1Words x3 4).bind fun y29 =>
            some y29
          else
            bif (!x2) then
              (f_spec_l1Words x3 4).bind fun y30 =>
              some y30
            else
              some false
        else
          some false
      else
        some false
  else
    bif (decide (x0 = (7 : Int))) then
      bif (decide (x0 = (3 : Int))) then
        (f_spec_l1In x0 1 7).bind fun y31 =>
        bif y31 then
          (f_spec_l1In x1 0 5).bind fun y32 =>
          bif y32 then
            (f_spec_l1Words x3 4).bind fun y33 =>
            some y33
          else
            some false
        else
          some false
      else
        (f_spec_l1In x0 1 7).bind fun y34 =>
        bif y34 then
          (f_spec_l1In x1 0 5).bind fun y35 =>
          bif y35 then
            bif (decide (x0 = (6 : Int))) then
              (f_spec_l1Words x3 4).bind fun y36 =>
              some y36
            else
              bif (!x2) then
                (f_spec_l1Words x3 4).bind fun y37 =>
                some y37
              else
                some false
          else
            some false
        else
          some false
    else
      bif (decide (x0 = (3 : Int))) then
        (f_spec_l1In x0 1 7).bind fun y38 =>
        bif y38 then
          (f_spec_l1In x1 0 5).bind fun y39 =>
          bif y39 then
            (f_spec_l1Words x3 0).bind fun y40 =>
            some y40
          else
            some false
        else
          some false
      else
        (f_spec_l1In x0 1 7).bind fun y41 =>
        bif y41 then
          (f_spec_l1In x1 0 5).bind fun y42 =>
          bif y42 then
            bif (decide (x0 = (6 : Int))) then
              (f_spec_l1Words x3 0).bind fun y43 =>
              some y43
            else
              bif (!x2) then
                (f_spec_l1Words x3 0).bind fun y44 =>
                some y44
              else
                some false
          else
            some false
        else
          some false
noncomputable def C91 : Con := ⟨[(.B, true, [(.int .i64), (.int .i64), .bool, (.sl R1)])], [(false, [.bool])], [(.int .i64), (.int .i64), .bool, (.sl R1)], [.bool], fun (p : Int × Int × Bool × List Int) => f_spec_MsgOk p.1 p.2.1 p.2.2.1 p.2.2.2⟩
noncomputable abbrev K91 : Cons := [(94, C94), (112, C112)]
noncomputable abbrev L91 : List (Nat × Loops) := []
abbrev Q91 : List (Nat × List (Int × Nat) × Nat) := []
noncomputable abbrev X91 : Nat → Ctx := ctxOf tb K91 L91 Q91
theorem E91 : ∀ x, funRun fs X91 6 91 C91 x = C91.fn x := fun x => by kernel_rfl
theorem B91 : ConB Try.prog 91 C91 := ConB.make FS MIX TY (cons := K91) (L := L91) (ptrs := Q91) ⟨S94, S112, trivial⟩ trivial trivial rfl rfl E91
theorem S91 : ConS Try.prog 91 C91 := B91.call rfl
/-! spec.PutNum: function 56 -/
noncomputable def f_spec_PutNum.l0 : Nat → Int → (List Int) → Option (Int × List Int)
  | 0, _, _ => none
  | n + 1, p46, p47 =>
    bif (decide ((127 : Int) < p46)) then
      bif (Nat.blt (p47.length + ([(IntKind.wrap .u8 ((IntKind.wrap .i64 ((Int.tmod p46 (128 : Int)) + (128 : Int)))))] : List Int).length) 140737488355328) then
      (some ((p47 ++ ([(IntKind.wrap .u8 ((IntKind.wrap .i64 ((Int.tmod p46 (128 : Int)) + (128 : Int)))))] : List Int)) : List Int)).bind fun z48 =>
      f_spec_PutNum.l0 n (IntKind.wrap .i64 (Int.tdiv p46 (128 : Int))) z48
      else none
    else
      some (p46, p47)
noncomputable def f_spec_PutNum (x0 : Int) : Option (List Int) :=
  (f_spec_l1In x0 0 100000).bind fun y45 =>
  bif (!y45) then
    some ([] : List Int)
  else
    (f_spec_PutNum.l0 N x0 ([] : List Int)).bind fun r49 =>
    bif (Nat.blt (r49.2.length + ([(IntKind.wrap .u8 (r49.1))] : List Int).length) 140737488355328) then
    (some ((r49.2 ++ ([(IntKind.wrap .u8 (r49.1))] : List Int)) : List Int)).bind fun z50 =>
    some z50
    else none
noncomputable def C56 : Con := ⟨[(.B, false, [(.int .i64)])], [(false, [(.sl R0)])], [(.int .i64)], [(.sl R0)], fun (p : Int) => f_spec_PutNum p⟩
noncomputable def f_spec_PutNum.l0.c : LoopCon := ⟨1000, 6, [0, 2, 3], ⟨[(0, .int .i64 0), (2, .nil (some R0)), (3, .ref 1000 [] none)], [(1000, .row R0 [])], 1001⟩, [(.int .i64), (.sl R0)], [⟨.exit 0, [0, 2, 3], ⟨[(0, .int .i64 0), (2, .nil (some R0)), (3, .ref 1000 [] none)], [(1000, .row R0 [])], 1001⟩, [(.int .i64), (.sl R0)]⟩], fun (p : Int × List Int) => f_spec_PutNum.l0 N p.1 p.2⟩
noncomputable abbrev K56 : Cons := [(94, C94)]
noncomputable abbrev L56 : List (Nat × Loops) := [(56, [(4, f_spec_PutNum.l0.c)])]
abbrev Q56 : List (Nat × List (Int × Nat) × Nat) := []
noncomputable abbrev X56 : Nat → Ctx := ctxOf tb K56 L56 Q56
theorem f_spec_PutNum.l0.ok : ∀ n p, (fun (p : Int × List Int) => f_spec_PutNum.l0 n p.1 p.2) p = iterD (roundOf fs X56 6 56 4 false f_spec_PutNum.l0.c) n p :=
  iter_of (l := fun n => fun (p : Int × List Int) => f_spec_PutNum.l0 n p.1 p.2) (fun _ => rfl) (fun n p => by kernel_rfl)
theorem E56 : ∀ x, funRun fs X56 6 56 C56 x = C56.fn x := fun x => by kernel_rfl
theorem B56 : ConB Try.prog 56 C56 := ConB.make FS MIX TY (cons := K56) (L := L56) (ptrs := Q56) ⟨S94, trivial⟩ trivial ⟨⟨⟨N, fun p => f_spec_PutNum.l0.ok N p⟩, trivial⟩, trivial⟩ rfl rfl E56
theorem S56 : ConS Try.prog 56 C56 := B56.call rfl
/-! spec.l1Bit: function 92 -/
noncomputable def f_spec_l1Bit (x0 : Bool) : Option (Int) :=
  bif x0 then
    some 1
  else
    some 0
noncomputable def C92 : Con := ⟨[(.B, false, [.bool])], [(false, [(.int .i64)])], [.bool], [(.int .i64)], fun (p : Bool) => f_spec_l1Bit p⟩
noncomputable abbrev K92 : Cons := []
noncomputable abbrev L92 : List (Nat × Loops) := []
abbrev Q92 : List (Nat × List (Int × Nat) × Nat) := []
noncomputable abbrev X92 : Nat → Ctx := ctxOf tb K92 L92 Q92
theorem E92 : ∀ x, funRun fs X92 6 92 C92 x = C92.fn x := fun x => by kernel_rfl
theorem B92 : ConB Try.prog 92 C92 := ConB.make FS MIX TY (cons := K92) (L := L92) (ptrs := Q92) trivial trivial trivial rfl rfl E92
theorem S92 : ConS Try.prog 92 C92 := B92.call rfl
/-! spec.MsgBytes: function 15 -/
noncomputable def f_spec_MsgBytes.l0 : Nat → Int → Int → Int → Bool → (List Int) → (List Int) → Option (List Int)
  | 0, _, _, _, _, _, _ => none
  | n + 1, p58, p59, p60, p61, p62, p63 =>
    bif (decide (p58 < (p62.length : Int))) then
      bif ((decide ((0 : Int) ≤ p58)) && (decide (p58 < (p62.length : Int)))) then
      (f_spec_PutNum (p62.getD p58.toNat 0)).bind fun y64 =>
      bif (Nat.blt (p63.length + y64.length) 140737488355328) then
      (some ((p63 ++ y64) : List Int)).bind fun z65 =>
      f_spec_MsgBytes.l0 n (IntKind.wrap .i64 (p58 + (1 : Int))) p59 p60 p61 p62 z65
      else none
      else none
    else
      some p63
noncomputable def f_spec_MsgBytes (x0 : Int) (x1 : Int) (x2 : Bool) (x3 : List Int) : Option (List Int) :=
  (f_spec_MsgOk x0 x1 x2 x3).bind fun y51 =>
  bif (!y51) then
    some ([] : List Int)
  else
    (f_spec_PutNum x0).bind fun y52 =>
    (f_spec_PutNum x1).bind fun y53 =>
    bif (Nat.blt (y52.length + y53.length) 140737488355328) then
    (some ((y52 ++ y53) : List Int)).bind fun z54 =>
    (f_spec_l1Bit x2).bind fun y55 =>
    (f_spec_PutNum y55).bind fun y56 =>
    bif (Nat.blt (z54.length + y56.length) 140737488355328) then
    (some ((z54 ++ y56) : List Int)).bind fun z57 =>
    (f_spec_MsgBytes.l0 N 0 x0 x1 x2 x3 z57).bind fun r66 =>
    some r66
    else none
    else none
noncomputable def C15 : Con := ⟨[(.B, true, [(.int .i64), (.int .i64), .bool, (.sl R1)])], [(false, [(.sl R0)])], [(.int .i64), (.int .i64), .bool, (.sl R1)], [(.sl R0)], fun (p : Int × Int × Bool × List Int) => f_spec_MsgBytes p.1 p.2.1 p.2.2.1 p.2.2.2⟩
noncomputable def f_spec_MsgBytes.l0.c : LoopCon := ⟨1000, 6, [1, 2, 3, 4], ⟨[(1, .ptr 1000 0), (2, .nil (some R0)), (3, .ref 1001 [] none), (4, .int .i64 0)], [(1000, .box [.int .i64 0, .int .i64 0, .bool false, .bor none R1 []]), (1001, .row R0 [])], 1002⟩, [(.int .i64), (.int .i64), (.int .i64), .bool, (.sl R1), (.sl R0)], [⟨.exit 0, [2, 3], ⟨[(2, .nil (some R0)), (3, .ref 1000 [] none)], [(1000, .row R0 [])], 1001⟩, [(.sl R0)]⟩], fun (p : Int × Int × Int × Bool × List Int × List Int) => f_spec_MsgBytes.l0 N p.1 p.2.1 p.2.2.1 p.2.2.2.1 p.2.2.2.2.1 p.2.2.2.2.2⟩
noncomputable abbrev K15 : Cons := [(56, C56), (91, C91), (92, C92)]
noncomputable abbrev L15 : List (Nat × Loops) := [(15, [(6, f_spec_MsgBytes.l0.c)])]
abbrev Q15 : List (Nat × List (Int × Nat) × Nat) := []
noncomputable abbrev X15 : Nat → Ctx := ctxOf tb K15 L15 Q15
theorem f_spec_MsgBytes.l0.ok : ∀ n p, (fun (p : Int × Int × Int × Bool × List Int × List Int) => f_spec_MsgBytes.l0 n p.1 p.2.1 p.2.2.1 p.2.2.2.1 p.2.2.2.2.1 p.2.2.2.2.2) p = iterD (roundOf fs X15 6 15 6 false f_spec_MsgBytes.l0.c) n p :=
  iter_of (l := fun n => fun (p : Int × Int × Int × Bool × List Int × List Int) => f_spec_MsgBytes.l0 n p.1 p.2.1 p.2.2.1 p.2.2.2.1 p.2.2.2.2.1 p.2.2.2.2.2) (fun _ => rfl) (fun n p => by kernel_rfl)
theorem E15 : ∀ x, funRun fs X15 6 15 C15 x = C15.fn x := fun x => by kernel_rfl
theorem B15 : ConB Try.prog 15 C15 := ConB.make FS MIX TY (cons := K15) (L := L15) (ptrs := Q15) ⟨S56, S91, S92, trivial⟩ trivial ⟨⟨⟨N, fun p => f_spec_MsgBytes.l0.ok N p⟩, trivial⟩, trivial⟩ rfl rfl E15
theorem S15 : ConS Try.prog 15 C15 := B15.call rfl
/-! spec.MsgOf: function 39 -/
noncomputable def f_spec_MsgOf.l0 : Nat → (List Int) → Bool → Int → Int → Int → Bool → (List Int) → (List Int) → Option ((Bool × Int × Int × Bool × List Int) ⊕ (List Int × Bool × Int × Int × Bool × List Int × List Int))
  | 0, _, _, _, _, _, _, _, _ => none
  | n + 1, p67, p68, p69, p70, p71, p72, p73, p74 =>
    bif (decide (p69 < (p67.length : Int))) then
      bif (decide ((p73.length : Int) < (8 : Int))) then
        (f_spec_GetNum p67 p69).bind fun y75 =>
        bif (!y75.2.2) then
          some (.inl (false, 0, 0, false, ([] : List Int)))
        else
          bif (Nat.blt (p73.length + ([y75.1] : List Int).length) 17592186044416) then
          (some ((p73 ++ ([y75.1] : List Int)) : List Int)).bind fun z76 =>
          f_spec_MsgOf.l0 n p67 p68 y75.2.1 p70 p71 p72 z76 p74
          else none
      else
        some (.inr (p67, p68, p70, p71, p72, p73, p74))
    else
      some (.inr (p67, p68, p70, p71, p72, p73, p74))
noncomputable def f_spec_MsgOf (x0 : List Int) : Option (Int × Int × Bool × List Int × Bool) :=
  (f_spec_MsgOf.l0 N x0 false 0 0 0 false ([] : List Int) ([] : List Int)).bind fun r77 =>
  cs r77 (fun a78 =>
    some (a78.2.1, a78.2.2.1, a78.2.2.2.1, a78.2.2.2.2, a78.1)) (fun b79 =>
    bif (decide ((b79.2.2.2.2.2.1.length : Int) < (3 : Int))) then
      some (0, 0, false, [], false)
    else
      bif (decide ((0 : Int) < (b79.2.2.2.2.2.1.length : Int))) then
      bif (decide ((1 : Int) < (b79.2.2.2.2.2.1.length : Int))) then
      bif (decide ((2 : Int) < (b79.2.2.2.2.2.1.length : Int))) then
      bif (decide ((3 : Int) ≤ (b79.2.2.2.2.2.1.length : Int))) then
      bif (Nat.blt (([] : List Int).length + ((b79.2.2.2.2.2.1.drop 3).take ((b79.2.2.2.2.2.1.length : Int) - (3 : Int)).toNat).length) 17592186044416) then
      (some ((([] : List Int) ++ ((b79.2.2.2.2.2.1.drop 3).take ((b79.2.2.2.2.2.1.length : Int) - (3 : Int)).toNat)) : List Int)).bind fun z80 =>
      (f_spec_MsgBytes (b79.2.2.2.2.2.1.getD 0 0) (b79.2.2.2.2.2.1.getD 1 0) (decide ((b79.2.2.2.2.2.1.getD 2 0) = (1 : Int))) z80).bind fun y81 =>
      bif (!((bytesOfRows y81).toList == (bytesOfRows b79.1).toList)) then
        some (0, 0, false, [], false)
      else
        some ((b79.2.2.2.2.2.1.getD 0 0), (b79.2.2.2.2.2.1.getD 1 0), (decide ((b79.2.2.2.2.2.1.getD 2 0) = (1 : Int))), z80, true)
      else none
      else none
      else none
      else none
      else none)
noncomputable def C39 : Con := ⟨[(.B, false, [(.sl R0)])], [(true, [(.int .i64), (.int .i64), .bool, (.sl R1)]), (false, [.bool])], [(.sl R0)], [(.int .i64), (.int .i64), .bool, (.sl R1), .bool], fun (p : List Int) => f_spec_MsgOf p⟩
noncomputable def f_spec_MsgOf.l0.c : LoopCon := ⟨1000, 6, [0, 2, 3, 4, 5], ⟨[(0, .bor none R0 []), (2, .ptr 1000 0), (3, .bool false), (4, .ref 1001 [] none), (5, .int .i64 0)], [(1000, .box [.int .i64 0, .int .i64 0, .bool false, .ref 1002 [] none]), (1001, .row R1 []), (1002, .row R1 [])], 1003⟩, [(.sl R0), .bool, (.int .i64), (.int .i64), (.int .i64), .bool, (.sl R1), (.sl R1)], [⟨.ret, [2, 3], ⟨[(2, .ptr 1000 0), (3, .bool false)], [(1000, .box [.int .i64 0, .int .i64 0, .bool false, .ref 1001 [] none]), (1001, .row R1 [])], 1002⟩, [.bool, (.int .i64), (.int .i64), .bool, (.sl R1)]⟩, ⟨.exit 0, [0, 2, 3, 4], ⟨[(0, .bor none R0 []), (2, .ptr 1000 0), (3, .bool false), (4, .ref 1001 [] none)], [(1000, .box [.int .i64 0, .int .i64 0, .bool false, .ref 1002 [] none]), (1001, .row R1 []), (1002, .row R1 [])], 1003⟩, [(.sl R0), .bool, (.int .i64), (.int .i64), .bool, (.sl R1), (.sl R1)]⟩], fun (p : List Int × Bool × Int × Int × Int × Bool × List Int × List Int) => f_spec_MsgOf.l0 N p.1 p.2.1 p.2.2.1 p.2.2.2.1 p.2.2.2.2.1 p.2.2.2.2.2.1 p.2.2.2.2.2.2.1 p.2.2.2.2.2.2.2⟩
noncomputable abbrev K39 : Cons := [(15, C15), (60, C60)]
noncomputable abbrev L39 : List (Nat × Loops) := [(39, [(3, f_spec_MsgOf.l0.c)])]
abbrev Q39 : List (Nat × List (Int × Nat) × Nat) := []
noncomputable abbrev X39 : Nat → Ctx := ctxOf tb K39 L39 Q39
theorem f_spec_MsgOf.l0.ok : ∀ n p, (fun (p : List Int × Bool × Int × Int × Int × Bool × List Int × List Int) => f_spec_MsgOf.l0 n p.1 p.2.1 p.2.2.1 p.2.2.2.1 p.2.2.2.2.1 p.2.2.2.2.2.1 p.2.2.2.2.2.2.1 p.2.2.2.2.2.2.2) p = iterD (roundOf fs X39 6 39 3 false f_spec_MsgOf.l0.c) n p :=
  iter_of (l := fun n => fun (p : List Int × Bool × Int × Int × Int × Bool × List Int × List Int) => f_spec_MsgOf.l0 n p.1 p.2.1 p.2.2.1 p.2.2.2.1 p.2.2.2.2.1 p.2.2.2.2.2.1 p.2.2.2.2.2.2.1 p.2.2.2.2.2.2.2) (fun _ => rfl) (fun n p => by kernel_rfl)
theorem E39 : ∀ x, funRun fs X39 6 39 C39 x = C39.fn x := fun x => by kernel_rfl
theorem B39 : ConB Try.prog 39 C39 := ConB.make FS MIX TY (cons := K39) (L := L39) (ptrs := Q39) ⟨S15, S60, trivial⟩ trivial ⟨⟨⟨N, fun p => f_spec_MsgOf.l0.ok N p⟩, trivial⟩, trivial⟩ rfl rfl E39
theorem S39 : ConS Try.prog 39 C39 := B39.call rfl
/-! impl.GetNum: function 57 -/
noncomputable def f_impl_GetNum.l0 : Nat → (List Int) → Int → Int → Int → Bool → Int → Int → Option ((Int × Int × Bool) ⊕ (Int × Int × Bool))
  | 0, _, _, _, _, _, _, _ => none
  | n + 1, p82, p83, p84, p85, p86, p87, p88 =>
    bif (decide (p88 < (3 : Int))) then
      bif (decide (p83 < (IntKind.wrap .i64 ((p82.length : Int) - p88)))) then
        bif ((decide ((0 : Int) ≤ (IntKind.wrap .i64 (p83 + p88)))) && (decide ((IntKind.wrap .i64 (p83 + p88)) < (p82.length : Int)))) then
        bif (decide ((IntKind.wrap .i64 ((7 : Int) * p88)) < (0 : Int))) then none else
        bif (decide ((128 : Int) ≤ (p82.getD (IntKind.wrap .i64 (p83 + p88)).toNat 0))) then
          f_impl_GetNum.l0 n p82 p83 p84 p85 p86 (IntKind.wrap .i64 (p87 + (shlI .i64 (IntKind.wrap .i64 ((Int.tmod (p82.getD (IntKind.wrap .i64 (p83 + p88)).toNat 0) (128 : Int)))) (IntKind.wrap .i64 ((7 : Int) * p88))))) (IntKind.wrap .i64 (p88 + (1 : Int)))
        else
          bif (decide ((100000 : Int) < (IntKind.wrap .i64 (p87 + (shlI .i64 (IntKind.wrap .i64 ((Int.tmod (p82.getD (IntKind.wrap .i64 (p83 + p88)).toNat 0) (128 : Int)))) (IntKind.wrap .i64 ((7 : Int) * p88))))))) then
            some (.inl (p84, p85, p86))
          else
            bif (decide ((p82.getD (IntKind.wrap .i64 (p83 + p88)).toNat 0) = (0 : Int))) then
              bif (decide ((0 : Int) < p88)) then
                some (.inl (p84, p85, p86))
              else
                some (.inr ((IntKind.wrap .i64 (p87 + (shlI .i64 (IntKind.wrap .i64 ((Int.tmod (p82.getD (IntKind.wrap .i64 (p83 + p88)).toNat 0) (128 : Int)))) (IntKind.wrap .i64 ((7 : Int) * p88))))), (IntKind.wrap .i64 ((IntKind.wrap .i64 (p83 + p88)) + (1 : Int))), true))
            else
              some (.inr ((IntKind.wrap .i64 (p87 + (shlI .i64 (IntKind.wrap .i64 ((Int.tmod (p82.getD (IntKind.wrap .i64 (p83 + p88)).toNat 0) (128 : Int)))) (IntKind.wrap .i64 ((7 : Int) * p88))))), (IntKind.wrap .i64 ((IntKind.wrap .i64 (p83 + p88)) + (1 : Int))), true))
        else none
      else
        some (.inl (p84, p85, p86))
    else
      some (.inl (p84, p85, p86))
noncomputable def f_impl_GetNum (x0 : List Int) (x1 : Int) : Option (Int × Int × Bool) :=
  bif (decide (x1 < (0 : Int))) then
    some (0, 0, false)
  else
    (f_impl_GetNum.l0 N x0 x1 0 0 false 0 0).bind fun r89 =>
    cs r89 (fun a90 =>
      some (0, 0, false)) (fun b91 =>
      some (b91.1, b91.2.1, b91.2.2))
noncomputable def C57 : Con := ⟨[(.B, false, [(.sl R0)]), (.B, false, [(.int .i64)])], [(false, [(.int .i64)]), (false, [(.int .i64)]), (false, [.bool])], [(.sl R0), (.int .i64)], [(.int .i64), (.int .i64), .bool], fun (p : List Int × Int) => f_impl_GetNum p.1 p.2⟩
noncomputable def f_impl_GetNum.l0.c : LoopCon := ⟨1000, 6, [0, 1, 4, 5, 6, 7, 8], ⟨[(0, .bor none R0 []), (1, .int .i64 0), (4, .int .i64 0), (5, .int .i64 0), (6, .bool false), (7, .int .i64 0), (8, .int .i64 0)], [], 1000⟩, [(.sl R0), (.int .i64), (.int .i64), (.int .i64), .bool, (.int .i64), (.int .i64)], [⟨.exit 0, [4, 5, 6], ⟨[(4, .int .i64 0), (5, .int .i64 0), (6, .bool false)], [], 1000⟩, [(.int .i64), (.int .i64), .bool]⟩, ⟨.ret, [4, 5, 6], ⟨[(4, .int .i64 0), (5, .int .i64 0), (6, .bool false)], [], 1000⟩, [(.int .i64), (.int .i64), .bool]⟩], fun (p : List Int × Int × Int × Int × Bool × Int × Int) => f_impl_GetNum.l0 N p.1 p.2.1 p.2.2.1 p.2.2.2.1 p.2.2.2.2.1 p.2.2.2.2.2.1 p.2.2.2.2.2.2⟩
noncomputable abbrev K57 : Cons := []
noncomputable abbrev L57 : List (Nat × Loops) := [(57, [(5, f_impl_GetNum.l0.c)])]
abbrev Q57 : List (Nat × List (Int × Nat) × Nat) := []
noncomputable abbrev X57 : Nat → Ctx := ctxOf tb K57 L57 Q57
theorem f_impl_GetNum.l0.ok : ∀ n p, (fun (p : List Int × Int × Int × Int × Bool × Int × Int) => f_impl_GetNum.l0 n p.1 p.2.1 p.2.2.1 p.2.2.2.1 p.2.2.2.2.1 p.2.2.2.2.2.1 p.2.2.2.2.2.2) p = iterD (roundOf fs X57 6 57 5 false f_impl_GetNum.l0.c) n p :=
  iter_of (l := fun n => fun (p : List Int × Int × Int × Int × Bool × Int × Int) => f_impl_GetNum.l0 n p.1 p.2.1 p.2.2.1 p.2.2.2.1 p.2.2.2.2.1 p.2.2.2.2.2.1 p.2.2.2.2.2.2) (fun _ => rfl) (fun n p => by kernel_rfl)
theorem E57 : ∀ x, funRun fs X57 6 57 C57 x = C57.fn x := fun x => by kernel_rfl
theorem B57 : ConB Try.prog 57 C57 := ConB.make FS MIX TY (cons := K57) (L := L57) (ptrs := Q57) trivial trivial ⟨⟨⟨N, fun p => f_impl_GetNum.l0.ok N p⟩, trivial⟩, trivial⟩ rfl rfl E57
theorem S57 : ConS Try.prog 57 C57 := B57.call rfl
/-! impl.from: function 118 -/
noncomputable def f_impl_from (x0 : Int) (x1 : Int) (x2 : Int) : Option (Bool) :=
  bif (decide (x1 ≤ x0)) then
    some (decide (x0 ≤ x2))
  else
    some false
noncomputable def C118 : Con := ⟨[(.B, false, [(.int .i64)]), (.B, false, [(.int .i64)]), (.B, false, [(.int .i64)])], [(false, [.bool])], [(.int .i64), (.int .i64), (.int .i64)], [.bool], fun (p : Int × Int × Int) => f_impl_from p.1 p.2.1 p.2.2⟩
noncomputable abbrev K118 : Cons := []
noncomputable abbrev L118 : List (Nat × Loops) := []
abbrev Q118 : List (Nat × List (Int × Nat) × Nat) := []
noncomputable abbrev X118 : Nat → Ctx := ctxOf tb K118 L118 Q118
theorem E118 : ∀ x, funRun fs X118 6 118 C118 x = C118.fn x := fun x => by kernel_rfl
theorem B118 : ConB Try.prog 118 C118 := ConB.make FS MIX TY (cons := K118) (L := L118) (ptrs := Q118) trivial trivial trivial rfl rfl E118
theorem S118 : ConS Try.prog 118 C118 := B118.call rfl
/-! impl.isPage: function 157 -/
noncomputable def f_impl_isPage (x0 : Int) : Option (Bool) :=
  (f_impl_from x0 0 5).bind fun y92 =>
  some y92
noncomputable def C157 : Con := ⟨[(.B, false, [(.int .i64)])], [(false, [.bool])], [(.int .i64)], [.bool], fun (p : Int) => f_impl_isPage p⟩
noncomputable abbrev K157 : Cons := [(118, C118)]
noncomputable abbrev L157 : List (Nat × Loops) := []
abbrev Q157 : List (Nat × List (Int × Nat) × Nat) := []
noncomputable abbrev X157 : Nat → Ctx := ctxOf tb K157 L157 Q157
theorem E157 : ∀ x, funRun fs X157 6 157 C157 x = C157.fn x := fun x => by kernel_rfl
theorem B157 : ConB Try.prog 157 C157 := ConB.make FS MIX TY (cons := K157) (L := L157) (ptrs := Q157) ⟨S118, trivial⟩ trivial trivial rfl rfl E157
theorem S157 : ConS Try.prog 157 C157 := B157.call rfl
/-! impl.isWord: function 109 -/
noncomputable def f_impl_isWord (x0 : Int) : Option (Bool) :=
  (f_impl_from x0 0 65535).bind fun y93 =>
  some y93
noncomputable def C109 : Con := ⟨[(.B, false, [(.int .i64)])], [(false, [.bool])], [(.int .i64)], [.bool], fun (p : Int) => f_impl_isWord p⟩
noncomputable abbrev K109 : Cons := [(118, C118)]
noncomputable abbrev L109 : List (Nat × Loops) := []
abbrev Q109 : List (Nat × List (Int × Nat) × Nat) := []
noncomputable abbrev X109 : Nat → Ctx := ctxOf tb K109 L109 Q109
theorem E109 : ∀ x, funRun fs X109 6 109 C109 x = C109.fn x := fun x => by kernel_rfl
theorem B109 : ConB Try.prog 109 C109 := ConB.make FS MIX TY (cons := K109) (L := L109) (ptrs := Q109) ⟨S118, trivial⟩ trivial trivial rfl rfl E109
theorem S109 : ConS Try.prog 109 C109 := B109.call rfl
/-! impl.wordsOk$1: function 163 -/
noncomputable def f_impl_wordsOk_1 (x0 : Int) : Option (Bool) :=
  (f_impl_isWord x0).bind fun y94 =>
  some (!y94)
noncomputable def C163 : Con := ⟨[(.B, false, [(.int .i64)])], [(false, [.bool])], [(.int .i64)], [.bool], fun (p : Int) => f_impl_wordsOk_1 p⟩
noncomputable abbrev K163 : Cons := [(109, C109)]
noncomputable abbrev L163 : List (Nat × Loops) := []
abbrev Q163 : List (Nat × List (Int × Nat) × Nat) := []
noncomputable abbrev X163 : Nat → Ctx := ctxOf tb K163 L163 Q163
theorem E163 : ∀ x, funRun fs X163 6 163 C163 x = C163.fn x := fun x => by kernel_rfl
theorem B163 : ConB Try.prog 163 C163 := ConB.make FS MIX TY (cons := K163) (L := L163) (ptrs := Q163) ⟨S109, trivial⟩ trivial trivial rfl rfl E163
theorem S163 : ConS Try.prog 163 C163 := B163.call rfl
/-! impl.wordsOk: function 125 -/
noncomputable def f_impl_wordsOk.l0 : Nat → (List Int) → Int → Int → Int → Option ((Int) ⊕ (Int))
  | 0, _, _, _, _ => none
  | n + 1, p95, p96, p97, p98 =>
    bif (decide (p98 < p97)) then
      bif ((decide ((0 : Int) ≤ p98)) && (decide (p98 < (p95.length : Int)))) then
      (f_impl_wordsOk_1 (p95.getD p98.toNat 0)).bind fun y99 =>
      bif y99 then
        some (.inl p98)
      else
        f_impl_wordsOk.l0 n p95 p96 p97 (IntKind.wrap .i64 (p98 + (1 : Int)))
      else none
    else
      some (.inr p96)
noncomputable def f_impl_wordsOk (x0 : List Int) (x1 : Int) : Option (Bool) :=
  bif (decide ((x0.length : Int) = x1)) then
    (f_impl_wordsOk.l0 N x0 0 (x0.length : Int) 0).bind fun r100 =>
    cs r100 (fun a101 =>
      some (!(decide ((0 : Int) ≤ a101)))) (fun b102 =>
      some true)
  else
    some false
noncomputable def C125 : Con := ⟨[(.B, false, [(.sl R1)]), (.B, false, [(.int .i64)])], [(false, [.bool])], [(.sl R1), (.int .i64)], [.bool], fun (p : List Int × Int) => f_impl_wordsOk p.1 p.2⟩
noncomputable def f_impl_wordsOk.l0.c : LoopCon := ⟨1274, 4, [0, 1, 4, 7, 8], ⟨[(0, .bor none R1 []), (1, .func 163 []), (4, .int .i64 0), (7, .int .i64 0), (8, .int .i64 0)], [], 1274⟩, [(.sl R1), (.int .i64), (.int .i64), (.int .i64)], [⟨.ret, [4], ⟨[(4, .int .i64 0)], [], 1274⟩, [(.int .i64)]⟩, ⟨.exit 0, [4], ⟨[(4, .int .i64 0)], [], 1274⟩, [(.int .i64)]⟩], fun (p : List Int × Int × Int × Int) => f_impl_wordsOk.l0 N p.1 p.2.1 p.2.2.1 p.2.2.2⟩
noncomputable abbrev K125 : Cons := [(163, C163)]
noncomputable abbrev L125 : List (Nat × Loops) := [(181, [(2, f_impl_wordsOk.l0.c)])]
abbrev Q125 : List (Nat × List (Int × Nat) × Nat) := []
noncomputable abbrev X125 : Nat → Ctx := ctxOf tb K125 L125 Q125
theorem f_impl_wordsOk.l0.ok : ∀ n p, (fun (p : List Int × Int × Int × Int) => f_impl_wordsOk.l0 n p.1 p.2.1 p.2.2.1 p.2.2.2) p = iterD (roundOf fs X125 4 181 2 true f_impl_wordsOk.l0.c) n p :=
  iter_of (l := fun n => fun (p : List Int × Int × Int × Int) => f_impl_wordsOk.l0 n p.1 p.2.1 p.2.2.1 p.2.2.2) (fun _ => rfl) (fun n p => by kernel_rfl)
theorem E125 : ∀ x, funRun fs X125 6 125 C125 x = C125.fn x := fun x => by kernel_rfl
theorem B125 : ConB Try.prog 125 C125 := ConB.make FS MIX TY (cons := K125) (L := L125) (ptrs := Q125) ⟨S163, trivial⟩ trivial ⟨⟨⟨N, fun p => f_impl_wordsOk.l0.ok N p⟩, trivial⟩, trivial⟩ rfl rfl E125
theorem S125 : ConS Try.prog 125 C125 := B125.call rfl
/-! impl.MsgOk: function 93 -/
noncomputable def f_impl_MsgOk (x0 : Int) (x1 : Int) (x2 : Bool) (x3 : List Int) : Option (Bool) :=
  (f_impl_from x0 1 7).bind fun y103 =>
  bif (!y103) then
    some false
  else
    (f_impl_isPage x1).bind fun y104 =>
    bif (!y104) then
      some false
    else
      bif x2 then
        bif (!(decide (x0 = (3 : Int)))) then
          bif (!(decide (x0 = (6 : Int)))) then
            some false
          else
            bif (decide (x0 = (3 : Int))) then
              (f_impl_wordsOk x3 4).bind fun y105 =>
              some y105
            else
              bif (decide (x0 = (7 : Int))) then
                (f_impl_wordsOk x3 4).bind fun y106 =>
                some y106
              else
                some (decide ((x3.length : Int) = (0 : Int)))
        else
          bif (decide (x0 = (3 : Int))) then
            (f_impl_wordsOk x3 4).bind fun y107 =>
            some y107
          else
            bif (decide (x0 = (7 : Int))) then
              (f_impl_wordsOk x3 4).bind fun y108 =>
              some y108
            else
              some (decide ((x3.length : Int) = (0 : Int)))
      else
        bif (decide (x0 = (3 : Int))) then
          (f_impl_wordsOk x3 4).bind fun y109 =>
          some y109
        else
          bif (decide (x0 = (7 : Int))) then
            (f_impl_wordsOk x3 4).bind fun y110 =>
            some y110
          else
            some (decide ((x3.length : Int) = (0 : Int)))
noncomputable def C93 : Con := ⟨[(.B, true, [(.int .i64), (.int .i64), .bool, (.sl R1)])], [(false, [.bool])], [(.int .i64), (.int .i64), .bool, (.sl R1)], [.bool], fun (p : Int × Int × Bool × List Int) => f_impl_MsgOk p.1 p.2.1 p.2.2.1 p.2.2.2⟩
noncomputable abbrev K93 : Cons := [(118, C118), (125, C125), (157, C157)]
noncomputable abbrev L93 : List (Nat × Loops) := []
abbrev Q93 : List (Nat × List (Int × Nat) × Nat) := []
noncomputable abbrev X93 : Nat → Ctx := ctxOf tb K93 L93 Q93
theorem E93 : ∀ x, funRun fs X93 6 93 C93 x = C93.fn x := fun x => by kernel_rfl
theorem B93 : ConB Try.prog 93 C93 := ConB.make FS MIX TY (cons := K93) (L := L93) (ptrs := Q93) ⟨S118, S125, S157, trivial⟩ trivial trivial rfl rfl E93
theorem S93 : ConS Try.prog 93 C93 := B93.call rfl
/-! impl.PutNum: function 55 -/
noncomputable def f_impl_PutNum.l0 : Nat → Int → (List Int) → Option (Int × List Int)
  | 0, _, _ => none
  | n + 1, p112, p113 =>
    bif (decide ((127 : Int) < p112)) then
      bif (Nat.blt (p113.length + ([(IntKind.wrap .u8 ((IntKind.wrap .i64 ((Int.tmod p112 (128 : Int)) + (128 : Int)))))] : List Int).length) 140737488355328) then
      (some ((p113 ++ ([(IntKind.wrap .u8 ((IntKind.wrap .i64 ((Int.tmod p112 (128 : Int)) + (128 : Int)))))] : List Int)) : List Int)).bind fun z114 =>
      f_impl_PutNum.l0 n (IntKind.wrap .i64 (Int.tdiv p112 (128 : Int))) z114
      else none
    else
      some (p112, p113)
noncomputable def f_impl_PutNum (x0 : Int) : Option (List Int) :=
  (f_impl_from x0 0 100000).bind fun y111 =>
  bif (!y111) then
    some []
  else
    (f_impl_PutNum.l0 N x0 ([] : List Int)).bind fun r115 =>
    bif (Nat.blt (r115.2.length + ([(IntKind.wrap .u8 (r115.1))] : List Int).length) 140737488355328) then
    (some ((r115.2 ++ ([(IntKind.wrap .u8 (r115.1))] : List Int)) : List Int)).bind fun z116 =>
    some z116
    else none
noncomputable def C55 : Con := ⟨[(.B, false, [(.int .i64)])], [(false, [(.sl R0)])], [(.int .i64)], [(.sl R0)], fun (p : Int) => f_impl_PutNum p⟩
noncomputable def f_impl_PutNum.l0.c : LoopCon := ⟨1000, 6, [0, 2, 3], ⟨[(0, .int .i64 0), (2, .nil (some R0)), (3, .ref 1000 [] none)], [(1000, .row R0 [])], 1001⟩, [(.int .i64), (.sl R0)], [⟨.exit 0, [0, 2, 3], ⟨[(0, .int .i64 0), (2, .nil (some R0)), (3, .ref 1000 [] none)], [(1000, .row R0 [])], 1001⟩, [(.int .i64), (.sl R0)]⟩], fun (p : Int × List Int) => f_impl_PutNum.l0 N p.1 p.2⟩
noncomputable abbrev K55 : Cons := [(118, C118)]
noncomputable abbrev L55 : List (Nat × Loops) := [(55, [(4, f_impl_PutNum.l0.c)])]
abbrev Q55 : List (Nat × List (Int × Nat) × Nat) := []
noncomputable abbrev X55 : Nat → Ctx := ctxOf tb K55 L55 Q55
theorem f_impl_PutNum.l0.ok : ∀ n p, (fun (p : Int × List Int) => f_impl_PutNum.l0 n p.1 p.2) p = iterD (roundOf fs X55 6 55 4 false f_impl_PutNum.l0.c) n p :=
  iter_of (l := fun n => fun (p : Int × List Int) => f_impl_PutNum.l0 n p.1 p.2) (fun _ => rfl) (fun n p => by kernel_rfl)
theorem E55 : ∀ x, funRun fs X55 6 55 C55 x = C55.fn x := fun x => by kernel_rfl
theorem B55 : ConB Try.prog 55 C55 := ConB.make FS MIX TY (cons := K55) (L := L55) (ptrs := Q55) ⟨S118, trivial⟩ trivial ⟨⟨⟨N, fun p => f_impl_PutNum.l0.ok N p⟩, trivial⟩, trivial⟩ rfl rfl E55
theorem S55 : ConS Try.prog 55 C55 := B55.call rfl
/-! impl.MsgBytes: function 17 -/
noncomputable def f_impl_MsgBytes.l0 : Nat → Int → Int → (List Int) → (List Int) → Option (List Int)
  | 0, _, _, _, _ => none
  | n + 1, p119, p120, p121, p122 =>
    bif (decide (p120 < p119)) then
      bif ((decide ((0 : Int) ≤ p120)) && (decide (p120 < (p122.length : Int)))) then
      (f_impl_PutNum (p122.getD p120.toNat 0)).bind fun y123 =>
      bif (Nat.blt (p121.length + y123.length) 140737488355328) then
      (some ((p121 ++ y123) : List Int)).bind fun z124 =>
      f_impl_MsgBytes.l0 n p119 (IntKind.wrap .i64 (p120 + (1 : Int))) z124 p122
      else none
      else none
    else
      some p121
noncomputable def f_impl_MsgBytes (x0 : Int) (x1 : Int) (x2 : Bool) (x3 : List Int) : Option (List Int) :=
  (f_impl_MsgOk x0 x1 x2 x3).bind fun y117 =>
  bif (!y117) then
    some []
  else
    bif x2 then
      bif (Nat.blt (([x0, x1, 1] : List Int).length + x3.length) 17592186044416) then
      (some ((([x0, x1, 1] : List Int) ++ x3) : List Int)).bind fun z118 =>
      (f_impl_MsgBytes.l0 N (z118.length : Int) 0 ([] : List Int) z118).bind fun r125 =>
      some r125
      else none
    else
      bif (Nat.blt (([x0, x1, 0] : List Int).length + x3.length) 17592186044416) then
      (some ((([x0, x1, 0] : List Int) ++ x3) : List Int)).bind fun z126 =>
      (f_impl_MsgBytes.l0 N (z126.length : Int) 0 ([] : List Int) z126).bind fun r127 =>
      some r127
      else none
noncomputable def C17 : Con := ⟨[(.B, true, [(.int .i64), (.int .i64), .bool, (.sl R1)])], [(false, [(.sl R0)])], [(.int .i64), (.int .i64), .bool, (.sl R1)], [(.sl R0)], fun (p : Int × Int × Bool × List Int) => f_impl_MsgBytes p.1 p.2.1 p.2.2.1 p.2.2.2⟩
noncomputable def f_impl_MsgBytes.l0.c : LoopCon := ⟨1000, 6, [2, 4, 21, 22, 23], ⟨[(2, .nil (some R0)), (4, .ref 1000 [] none), (21, .ref 1001 [] none), (22, .int .i64 0), (23, .int .i64 0)], [(1000, .row R0 []), (1001, .row R1 [])], 1002⟩, [(.int .i64), (.int .i64), (.sl R0), (.sl R1)], [⟨.exit 0, [2, 4], ⟨[(2, .nil (some R0)), (4, .ref 1000 [] none)], [(1000, .row R0 [])], 1001⟩, [(.sl R0)]⟩], fun (p : Int × Int × List Int × List Int) => f_impl_MsgBytes.l0 N p.1 p.2.1 p.2.2.1 p.2.2.2⟩
noncomputable abbrev K17 : Cons := [(55, C55), (93, C93)]
noncomputable abbrev L17 : List (Nat × Loops) := [(17, [(8, f_impl_MsgBytes.l0.c)])]
abbrev Q17 : List (Nat × List (Int × Nat) × Nat) := []
noncomputable abbrev X17 : Nat → Ctx := ctxOf tb K17 L17 Q17
theorem f_impl_MsgBytes.l0.ok : ∀ n p, (fun (p : Int × Int × List Int × List Int) => f_impl_MsgBytes.l0 n p.1 p.2.1 p.2.2.1 p.2.2.2) p = iterD (roundOf fs X17 6 17 8 false f_impl_MsgBytes.l0.c) n p :=
  iter_of (l := fun n => fun (p : Int × Int × List Int × List Int) => f_impl_MsgBytes.l0 n p.1 p.2.1 p.2.2.1 p.2.2.2) (fun _ => rfl) (fun n p => by kernel_rfl)
theorem E17 : ∀ x, funRun fs X17 6 17 C17 x = C17.fn x := fun x => by kernel_rfl
theorem B17 : ConB Try.prog 17 C17 := ConB.make FS MIX TY (cons := K17) (L := L17) (ptrs := Q17) ⟨S55, S93, trivial⟩ trivial ⟨⟨⟨N, fun p => f_impl_MsgBytes.l0.ok N p⟩, trivial⟩, trivial⟩ rfl rfl E17
theorem S17 : ConS Try.prog 17 C17 := B17.call rfl
/-! bytes.Equal: function 102 -/
noncomputable def f_bytes_Equal (x0 : List Int) (x1 : List Int) : Option (Bool) :=
  some ((bytesOfRows x0).toList == (bytesOfRows x1).toList)
noncomputable def C102 : Con := ⟨[(.B, false, [(.sl R0)]), (.B, false, [(.sl R0)])], [(false, [.bool])], [(.sl R0), (.sl R0)], [.bool], fun (p : List Int × List Int) => f_bytes_Equal p.1 p.2⟩
noncomputable abbrev K102 : Cons := []
noncomputable abbrev L102 : List (Nat × Loops) := []
abbrev Q102 : List (Nat × List (Int × Nat) × Nat) := []
noncomputable abbrev X102 : Nat → Ctx := ctxOf tb K102 L102 Q102
theorem E102 : ∀ x, funRun fs X102 6 102 C102 x = C102.fn x := fun x => by kernel_rfl
theorem B102 : ConB Try.prog 102 C102 := ConB.make FS MIX TY (cons := K102) (L := L102) (ptrs := Q102) trivial trivial trivial rfl rfl E102
theorem S102 : ConS Try.prog 102 C102 := B102.call rfl
/-! impl.MsgOf: function 41 -/
noncomputable def f_impl_MsgOf.l0 : Nat → (List Int) → Bool → Int → Int → Int → Bool → (List Int) → (List Int) → Option ((Bool × Int × Int × Bool × List Int) ⊕ (List Int × Bool × Int × Int × Bool × List Int × List Int))
  | 0, _, _, _, _, _, _, _, _ => none
  | n + 1, p128, p129, p130, p131, p132, p133, p134, p135 =>
    bif (decide (p130 < (p128.length : Int))) then
      bif (decide ((p134.length : Int) < (7 : Int))) then
        (f_impl_GetNum p128 p130).bind fun y136 =>
        bif (!y136.2.2) then
          some (.inl (false, 0, 0, false, ([] : List Int)))
        else
          bif (Nat.blt (p134.length + ([y136.1] : List Int).length) 17592186044416) then
          (some ((p134 ++ ([y136.1] : List Int)) : List Int)).bind fun z137 =>
          f_impl_MsgOf.l0 n p128 p129 y136.2.1 p131 p132 p133 z137 p135
          else none
      else
        some (.inr (p128, p129, p131, p132, p133, p134, p135))
    else
      some (.inr (p128, p129, p131, p132, p133, p134, p135))
noncomputable def f_impl_MsgOf (x0 : List Int) : Option (Int × Int × Bool × List Int × Bool) :=
  (f_impl_MsgOf.l0 N x0 false 0 0 0 false ([] : List Int) ([] : List Int)).bind fun r138 =>
  cs r138 (fun a139 =>
    some (a139.2.1, a139.2.2.1, a139.2.2.2.1, a139.2.2.2.2, a139.1)) (fun b140 =>
    bif (decide ((b140.2.2.2.2.2.1.length : Int) < (3 : Int))) then
      some (0, 0, false, [], false)
    else
      bif (decide ((0 : Int) < (b140.2.2.2.2.2.1.length : Int))) then
      bif (decide ((1 : Int) < (b140.2.2.2.2.2.1.length : Int))) then
      bif (decide ((2 : Int) < (b140.2.2.2.2.2.1.length : Int))) then
      bif (decide ((3 : Int) ≤ (b140.2.2.2.2.2.1.length : Int))) then
      (f_impl_MsgBytes (b140.2.2.2.2.2.1.getD 0 0) (b140.2.2.2.2.2.1.getD 1 0) (decide ((b140.2.2.2.2.2.1.getD 2 0) = (1 : Int))) ((b140.2.2.2.2.2.1.drop 3).take ((b140.2.2.2.2.2.1.length : Int) - (3 : Int)).toNat)).bind fun y141 =>
      bif (decide ((y141.length : Int) = (0 : Int))) then
        some (0, 0, false, [], false)
      else
        (f_bytes_Equal y141 b140.1).bind fun y142 =>
        bif (!y142) then
          some (0, 0, false, [], false)
        else
          some ((b140.2.2.2.2.2.1.getD 0 0), (b140.2.2.2.2.2.1.getD 1 0), (decide ((b140.2.2.2.2.2.1.getD 2 0) = (1 : Int))), ((b140.2.2.2.2.2.1.drop 3).take ((b140.2.2.2.2.2.1.length : Int) - (3 : Int)).toNat), true)
      else none
      else none
      else none
      else none)
noncomputable def C41 : Con := ⟨[(.B, false, [(.sl R0)])], [(true, [(.int .i64), (.int .i64), .bool, (.sl R1)]), (false, [.bool])], [(.sl R0)], [(.int .i64), (.int .i64), .bool, (.sl R1), .bool], fun (p : List Int) => f_impl_MsgOf p⟩
noncomputable def f_impl_MsgOf.l0.c : LoopCon := ⟨1000, 6, [0, 2, 3, 4, 5], ⟨[(0, .bor none R0 []), (2, .ptr 1000 0), (3, .bool false), (4, .ref 1001 [] none), (5, .int .i64 0)], [(1000, .box [.int .i64 0, .int .i64 0, .bool false, .ref 1002 [] none]), (1001, .row R1 []), (1002, .row R1 [])], 1003⟩, [(.sl R0), .bool, (.int .i64), (.int .i64), (.int .i64), .bool, (.sl R1), (.sl R1)], [⟨.ret, [2, 3], ⟨[(2, .ptr 1000 0), (3, .bool false)], [(1000, .box [.int .i64 0, .int .i64 0, .bool false, .ref 1001 [] none]), (1001, .row R1 [])], 1002⟩, [.bool, (.int .i64), (.int .i64), .bool, (.sl R1)]⟩, ⟨.exit 0, [0, 2, 3, 4], ⟨[(0, .bor none R0 []), (2, .ptr 1000 0), (3, .bool false), (4, .ref 1001 [] none)], [(1000, .box [.int .i64 0, .int .i64 0, .bool false, .ref 1002 [] none]), (1001, .row R1 []), (1002, .row R1 [])], 1003⟩, [(.sl R0), .bool, (.int .i64), (.int .i64), .bool, (.sl R1), (.sl R1)]⟩], fun (p : List Int × Bool × Int × Int × Int × Bool × List Int × List Int) => f_impl_MsgOf.l0 N p.1 p.2.1 p.2.2.1 p.2.2.2.1 p.2.2.2.2.1 p.2.2.2.2.2.1 p.2.2.2.2.2.2.1 p.2.2.2.2.2.2.2⟩
noncomputable abbrev K41 : Cons := [(17, C17), (57, C57), (102, C102)]
noncomputable abbrev L41 : List (Nat × Loops) := [(41, [(3, f_impl_MsgOf.l0.c)])]
abbrev Q41 : List (Nat × List (Int × Nat) × Nat) := []
noncomputable abbrev X41 : Nat → Ctx := ctxOf tb K41 L41 Q41
theorem f_impl_MsgOf.l0.ok : ∀ n p, (fun (p : List Int × Bool × Int × Int × Int × Bool × List Int × List Int) => f_impl_MsgOf.l0 n p.1 p.2.1 p.2.2.1 p.2.2.2.1 p.2.2.2.2.1 p.2.2.2.2.2.1 p.2.2.2.2.2.2.1 p.2.2.2.2.2.2.2) p = iterD (roundOf fs X41 6 41 3 false f_impl_MsgOf.l0.c) n p :=
  iter_of (l := fun n => fun (p : List Int × Bool × Int × Int × Int × Bool × List Int × List Int) => f_impl_MsgOf.l0 n p.1 p.2.1 p.2.2.1 p.2.2.2.1 p.2.2.2.2.1 p.2.2.2.2.2.1 p.2.2.2.2.2.2.1 p.2.2.2.2.2.2.2) (fun _ => rfl) (fun n p => by kernel_rfl)
theorem E41 : ∀ x, funRun fs X41 6 41 C41 x = C41.fn x := fun x => by kernel_rfl
theorem B41 : ConB Try.prog 41 C41 := ConB.make FS MIX TY (cons := K41) (L := L41) (ptrs := Q41) ⟨S17, S57, S102, trivial⟩ trivial ⟨⟨⟨N, fun p => f_impl_MsgOf.l0.ok N p⟩, trivial⟩, trivial⟩ rfl rfl E41
theorem S41 : ConS Try.prog 41 C41 := B41.call rfl
/-! laws.eqIntS: function 27 -/
noncomputable def f_laws_eqIntS.l0 : Nat → (List Int) → (List Int) → Bool → Int → Option ((Bool) ⊕ (Bool))
  | 0, _, _, _, _ => none
  | n + 1, p143, p144, p145, p146 =>
    bif (decide (p146 < (p143.length : Int))) then
      bif ((decide ((0 : Int) ≤ p146)) && (decide (p146 < (p143.length : Int)))) then
      bif ((decide ((0 : Int) ≤ p146)) && (decide (p146 < (p144.length : Int)))) then
      bif (!(decide ((p143.getD p146.toNat 0) = (p144.getD p146.toNat 0)))) then
        some (.inl false)
      else
        f_laws_eqIntS.l0 n p143 p144 p145 (IntKind.wrap .i64 (p146 + (1 : Int)))
      else none
      else none
    else
      some (.inr p145)
noncomputable def f_laws_eqIntS (x0 : List Int) (x1 : List Int) : Option (Bool) :=
  bif (!(decide ((x0.length : Int) = (x1.length : Int)))) then
    some false
  else
    (f_laws_eqIntS.l0 N x0 x1 false 0).bind fun r147 =>
    cs r147 (fun a148 =>
      some a148) (fun b149 =>
      some true)
noncomputable def C27 : Con := ⟨[(.B, false, [(.sl R1)]), (.B, false, [(.sl R1)])], [(false, [.bool])], [(.sl R1), (.sl R1)], [.bool], fun (p : List Int × List Int) => f_laws_eqIntS p.1 p.2⟩
noncomputable def f_laws_eqIntS.l0.c : LoopCon := ⟨1000, 6, [0, 1, 4, 5], ⟨[(0, .bor none R1 []), (1, .bor none R1 []), (4, .bool false), (5, .int .i64 0)], [], 1000⟩, [(.sl R1), (.sl R1), .bool, (.int .i64)], [⟨.ret, [4], ⟨[(4, .bool false)], [], 1000⟩, [.bool]⟩, ⟨.exit 0, [4], ⟨[(4, .bool false)], [], 1000⟩, [.bool]⟩], fun (p : List Int × List Int × Bool × Int) => f_laws_eqIntS.l0 N p.1 p.2.1 p.2.2.1 p.2.2.2⟩
noncomputable abbrev K27 : Cons := []
noncomputable abbrev L27 : List (Nat × Loops) := [(27, [(4, f_laws_eqIntS.l0.c)])]
abbrev Q27 : List (Nat × List (Int × Nat) × Nat) := []
noncomputable abbrev X27 : Nat → Ctx := ctxOf tb K27 L27 Q27
theorem f_laws_eqIntS.l0.ok : ∀ n p, (fun (p : List Int × List Int × Bool × Int) => f_laws_eqIntS.l0 n p.1 p.2.1 p.2.2.1 p.2.2.2) p = iterD (roundOf fs X27 6 27 4 false f_laws_eqIntS.l0.c) n p :=
  iter_of (l := fun n => fun (p : List Int × List Int × Bool × Int) => f_laws_eqIntS.l0 n p.1 p.2.1 p.2.2.1 p.2.2.2) (fun _ => rfl) (fun n p => by kernel_rfl)
theorem E27 : ∀ x, funRun fs X27 6 27 C27 x = C27.fn x := fun x => by kernel_rfl
theorem B27 : ConB Try.prog 27 C27 := ConB.make FS MIX TY (cons := K27) (L := L27) (ptrs := Q27) trivial trivial ⟨⟨⟨N, fun p => f_laws_eqIntS.l0.ok N p⟩, trivial⟩, trivial⟩ rfl rfl E27
theorem S27 : ConS Try.prog 27 C27 := B27.call rfl
/-! laws.eqMsg: function 19 -/
noncomputable def f_laws_eqMsg (x0 : Int) (x1 : Int) (x2 : Bool) (x3 : List Int) (x4 : Int) (x5 : Int) (x6 : Bool) (x7 : List Int) : Option (Bool) :=
  bif (!(decide (x0 = x4))) then
    some false
  else
    bif (!(decide (x1 = x5))) then
      some false
    else
      bif (!(x2 == x6)) then
        some false
      else
        (f_laws_eqIntS x3 x7).bind fun y150 =>
        bif (!y150) then
          some false
        else
          some true
noncomputable def C19 : Con := ⟨[(.B, true, [(.int .i64), (.int .i64), .bool, (.sl R1)]), (.B, true, [(.int .i64), (.int .i64), .bool, (.sl R1)])], [(false, [.bool])], [(.int .i64), (.int .i64), .bool, (.sl R1), (.int .i64), (.int .i64), .bool, (.sl R1)], [.bool], fun (p : Int × Int × Bool × List Int × Int × Int × Bool × List Int) => f_laws_eqMsg p.1 p.2.1 p.2.2.1 p.2.2.2.1 p.2.2.2.2.1 p.2.2.2.2.2.1 p.2.2.2.2.2.2.1 p.2.2.2.2.2.2.2⟩
noncomputable abbrev K19 : Cons := [(27, C27)]
noncomputable abbrev L19 : List (Nat × Loops) := []
abbrev Q19 : List (Nat × List (Int × Nat) × Nat) := []
noncomputable abbrev X19 : Nat → Ctx := ctxOf tb K19 L19 Q19
theorem E19 : ∀ x, funRun fs X19 6 19 C19 x = C19.fn x := fun x => by kernel_rfl
theorem B19 : ConB Try.prog 19 C19 := ConB.make FS MIX TY (cons := K19) (L := L19) (ptrs := Q19) ⟨S27, trivial⟩ trivial trivial rfl rfl E19
theorem S19 : ConS Try.prog 19 C19 := B19.call rfl
/-! laws.eqByteS: function 18 -/
noncomputable def f_laws_eqByteS.l0 : Nat → (List Int) → (List Int) → Bool → Int → Option ((Bool) ⊕ (Bool))
  | 0, _, _, _, _ => none
  | n + 1, p151, p152, p153, p154 =>
    bif (decide (p154 < (p151.length : Int))) then
      bif ((decide ((0 : Int) ≤ p154)) && (decide (p154 < (p151.length : Int)))) then
      bif ((decide ((0 : Int) ≤ p154)) && (decide (p154 < (p152.length : Int)))) then
      bif (!(decide ((p151.getD p154.toNat 0) = (p152.getD p154.toNat 0)))) then
        some (.inl false)
      else
        f_laws_eqByteS.l0 n p151 p152 p153 (IntKind.wrap .i64 (p154 + (1 : Int)))
      else none
      else none
    else
      some (.inr p153)
noncomputable def f_laws_eqByteS (x0 : List Int) (x1 : List Int) : Option (Bool) :=
  bif (!(decide ((x0.length : Int) = (x1.length : Int)))) then
    some false
  else
    (f_laws_eqByteS.l0 N x0 x1 false 0).bind fun r155 =>
    cs r155 (fun a156 =>
      some a156) (fun b157 =>
      some true)
noncomputable def C18 : Con := ⟨[(.B, false, [(.sl R0)]), (.B, false, [(.sl R0)])], [(false, [.bool])], [(.sl R0), (.sl R0)], [.bool], fun (p : List Int × List Int) => f_laws_eqByteS p.1 p.2⟩
noncomputable def f_laws_eqByteS.l0.c : LoopCon := ⟨1000, 6, [0, 1, 4, 5], ⟨[(0, .bor none R0 []), (1, .bor none R0 []), (4, .bool false), (5, .int .i64 0)], [], 1000⟩, [(.sl R0), (.sl R0), .bool, (.int .i64)], [⟨.ret, [4], ⟨[(4, .bool false)], [], 1000⟩, [.bool]⟩, ⟨.exit 0, [4], ⟨[(4, .bool false)], [], 1000⟩, [.bool]⟩], fun (p : List Int × List Int × Bool × Int) => f_laws_eqByteS.l0 N p.1 p.2.1 p.2.2.1 p.2.2.2⟩
noncomputable abbrev K18 : Cons := []
noncomputable abbrev L18 : List (Nat × Loops) := [(18, [(4, f_laws_eqByteS.l0.c)])]
abbrev Q18 : List (Nat × List (Int × Nat) × Nat) := []
noncomputable abbrev X18 : Nat → Ctx := ctxOf tb K18 L18 Q18
theorem f_laws_eqByteS.l0.ok : ∀ n p, (fun (p : List Int × List Int × Bool × Int) => f_laws_eqByteS.l0 n p.1 p.2.1 p.2.2.1 p.2.2.2) p = iterD (roundOf fs X18 6 18 4 false f_laws_eqByteS.l0.c) n p :=
  iter_of (l := fun n => fun (p : List Int × List Int × Bool × Int) => f_laws_eqByteS.l0 n p.1 p.2.1 p.2.2.1 p.2.2.2) (fun _ => rfl) (fun n p => by kernel_rfl)
theorem E18 : ∀ x, funRun fs X18 6 18 C18 x = C18.fn x := fun x => by kernel_rfl
theorem B18 : ConB Try.prog 18 C18 := ConB.make FS MIX TY (cons := K18) (L := L18) (ptrs := Q18) trivial trivial ⟨⟨⟨N, fun p => f_laws_eqByteS.l0.ok N p⟩, trivial⟩, trivial⟩ rfl rfl E18
theorem S18 : ConS Try.prog 18 C18 := B18.call rfl
/-! laws.markByteS: function 21 -/
noncomputable def f_laws_markByteS.l0 : Nat → Int → Int → Int → (List Int) → Option (Int × Int × List Int)
  | 0, _, _, _, _ => none
  | n + 1, p158, p159, p160, p161 =>
    bif (decide (p160 < (p161.length : Int))) then
      bif ((decide ((0 : Int) ≤ p160)) && (decide (p160 < (p161.length : Int)))) then
      (some ((p161.set p160.toNat (IntKind.wrap .u8 (p158))) : List Int)).bind fun z162 =>
      f_laws_markByteS.l0 n (IntKind.wrap .i64 (p158 + (1 : Int))) p159 (IntKind.wrap .i64 (p160 + (1 : Int))) z162
      else none
    else
      some (p158, p159, p161)
noncomputable def f_laws_markByteS (x0 : List Int) (x1 : Int) : Option (Int × List Int) :=
  (f_laws_markByteS.l0 N x1 0 0 x0).bind fun r163 =>
  some (r163.1, r163.2.2)
noncomputable def C21 : Con := ⟨[(.I, false, [(.sl R0)]), (.B, false, [(.int .i64)])], [(false, [(.int .i64)])], [(.sl R0), (.int .i64)], [(.int .i64), (.sl R0)], fun (p : List Int × Int) => f_laws_markByteS p.1 p.2⟩
noncomputable def f_laws_markByteS.l0.c : LoopCon := ⟨1000, 6, [0, 1, 4, 5], ⟨[(0, .ref 0 [] none), (1, .int .i64 0), (4, .int .i64 0), (5, .int .i64 0)], [(0, .row R0 [])], 1000⟩, [(.int .i64), (.int .i64), (.int .i64), (.sl R0)], [⟨.exit 0, [1, 4], ⟨[(1, .int .i64 0), (4, .int .i64 0)], [(0, .row R0 [])], 1000⟩, [(.int .i64), (.int .i64), (.sl R0)]⟩], fun (p : Int × Int × Int × List Int) => f_laws_markByteS.l0 N p.1 p.2.1 p.2.2.1 p.2.2.2⟩
noncomputable abbrev K21 : Cons := []
noncomputable abbrev L21 : List (Nat × Loops) := [(21, [(2, f_laws_markByteS.l0.c)])]
abbrev Q21 : List (Nat × List (Int × Nat) × Nat) := []
noncomputable abbrev X21 : Nat → Ctx := ctxOf tb K21 L21 Q21
theorem f_laws_markByteS.l0.ok : ∀ n p, (fun (p : Int × Int × Int × List Int) => f_laws_markByteS.l0 n p.1 p.2.1 p.2.2.1 p.2.2.2) p = iterD (roundOf fs X21 6 21 2 false f_laws_markByteS.l0.c) n p :=
  iter_of (l := fun n => fun (p : Int × Int × Int × List Int) => f_laws_markByteS.l0 n p.1 p.2.1 p.2.2.1 p.2.2.2) (fun _ => rfl) (fun n p => by kernel_rfl)
theorem E21 : ∀ x, funG fs X21 6 21 C21 x = C21.fn x := fun x => by kernel_rfl
theorem B21 : ConG Try.prog 21 C21 := ConG.make FS MIX TY (cons := K21) (L := L21) (ptrs := Q21) trivial trivial ⟨⟨⟨N, fun p => f_laws_markByteS.l0.ok N p⟩, trivial⟩, trivial⟩ rfl (by kernel_rfl) E21
theorem S21 : ConS Try.prog 21 C21 := B21.call (by kernel_rfl)
/-! laws.markIntS: function 28 -/
noncomputable def f_laws_markIntS.l0 : Nat → Int → Int → Int → (List Int) → Option (Int × Int × List Int)
  | 0, _, _, _, _ => none
  | n + 1, p164, p165, p166, p167 =>
    bif (decide (p166 < (p167.length : Int))) then
      bif ((decide ((0 : Int) ≤ p166)) && (decide (p166 < (p167.length : Int)))) then
      (some ((p167.set p166.toNat p164) : List Int)).bind fun z168 =>
      f_laws_markIntS.l0 n (IntKind.wrap .i64 (p164 + (1 : Int))) p165 (IntKind.wrap .i64 (p166 + (1 : Int))) z168
      else none
    else
      some (p164, p165, p167)
noncomputable def f_laws_markIntS (x0 : List Int) (x1 : Int) : Option (Int × List Int) :=
  (f_laws_markIntS.l0 N x1 0 0 x0).bind fun r169 =>
  some (r169.1, r169.2.2)
noncomputable def C28 : Con := ⟨[(.I, false, [(.sl R1)]), (.B, false, [(.int .i64)])], [(false, [(.int .i64)])], [(.sl R1), (.int .i64)], [(.int .i64), (.sl R1)], fun (p : List Int × Int) => f_laws_markIntS p.1 p.2⟩
noncomputable def f_laws_markIntS.l0.c : LoopCon := ⟨1000, 6, [0, 1, 4, 5], ⟨[(0, .ref 0 [] none), (1, .int .i64 0), (4, .int .i64 0), (5, .int .i64 0)], [(0, .row R1 [])], 1000⟩, [(.int .i64), (.int .i64), (.int .i64), (.sl R1)], [⟨.exit 0, [1, 4], ⟨[(1, .int .i64 0), (4, .int .i64 0)], [(0, .row R1 [])], 1000⟩, [(.int .i64), (.int .i64), (.sl R1)]⟩], fun (p : Int × Int × Int × List Int) => f_laws_markIntS.l0 N p.1 p.2.1 p.2.2.1 p.2.2.2⟩
noncomputable abbrev K28 : Cons := []
noncomputable abbrev L28 : List (Nat × Loops) := [(28, [(2, f_laws_markIntS.l0.c)])]
abbrev Q28 : List (Nat × List (Int × Nat) × Nat) := []
noncomputable abbrev X28 : Nat → Ctx := ctxOf tb K28 L28 Q28
theorem f_laws_markIntS.l0.ok : ∀ n p, (fun (p : Int × Int × Int × List Int) => f_laws_markIntS.l0 n p.1 p.2.1 p.2.2.1 p.2.2.2) p = iterD (roundOf fs X28 6 28 2 false f_laws_markIntS.l0.c) n p :=
  iter_of (l := fun n => fun (p : Int × Int × Int × List Int) => f_laws_markIntS.l0 n p.1 p.2.1 p.2.2.1 p.2.2.2) (fun _ => rfl) (fun n p => by kernel_rfl)
theorem E28 : ∀ x, funG fs X28 6 28 C28 x = C28.fn x := fun x => by kernel_rfl
theorem B28 : ConG Try.prog 28 C28 := ConG.make FS MIX TY (cons := K28) (L := L28) (ptrs := Q28) trivial trivial ⟨⟨⟨N, fun p => f_laws_markIntS.l0.ok N p⟩, trivial⟩, trivial⟩ rfl (by kernel_rfl) E28
theorem S28 : ConS Try.prog 28 C28 := B28.call (by kernel_rfl)
/-! laws.markMsg: function 20 -/
noncomputable def f_laws_markMsg (x0 : Int) (x1 : Int) (x2 : Bool) (x3 : List Int) (x4 : Int) : Option (Int × List Int) :=
  (f_laws_markIntS x3 x4).bind fun y170 =>
  (some (y170.2 : List Int)).bind fun z171 =>
  some (y170.1, z171)
noncomputable def C20 : Con := ⟨[(.I, true, [(.int .i64), (.int .i64), .bool, (.sl R1)]), (.B, false, [(.int .i64)])], [(false, [(.int .i64)])], [(.int .i64), (.int .i64), .bool, (.sl R1), (.int .i64)], [(.int .i64), (.sl R1)], fun (p : Int × Int × Bool × List Int × Int) => f_laws_markMsg p.1 p.2.1 p.2.2.1 p.2.2.2.1 p.2.2.2.2⟩
noncomputable abbrev K20 : Cons := [(28, C28)]
noncomputable abbrev L20 : List (Nat × Loops) := []
abbrev Q20 : List (Nat × List (Int × Nat) × Nat) := []
noncomputable abbrev X20 : Nat → Ctx := ctxOf tb K20 L20 Q20
theorem E20 : ∀ x, funG fs X20 6 20 C20 x = C20.fn x := fun x => by kernel_rfl
theorem B20 : ConG Try.prog 20 C20 := ConG.make FS MIX TY (cons := K20) (L := L20) (ptrs := Q20) ⟨S28, trivial⟩ trivial trivial rfl (by kernel_rfl) E20
theorem S20 : ConS Try.prog 20 C20 := B20.call (by kernel_rfl)
/-! laws.heldIntS: function 52 -/
noncomputable def f_laws_heldIntS.l0 : Nat → (List Int) → Int → Int → Int → Option ((Int) ⊕ (Int × Int))
  | 0, _, _, _, _ => none
  | n + 1, p172, p173, p174, p175 =>
    bif (decide (p175 < (p172.length : Int))) then
      bif ((decide ((0 : Int) ≤ p175)) && (decide (p175 < (p172.length : Int)))) then
      bif (!(decide ((p172.getD p175.toNat 0) = p173))) then
        some (.inl (-1))
      else
        f_laws_heldIntS.l0 n p172 (IntKind.wrap .i64 (p173 + (1 : Int))) p174 (IntKind.wrap .i64 (p175 + (1 : Int)))
      else none
    else
      some (.inr (p173, p174))
noncomputable def f_laws_heldIntS (x0 : List Int) (x1 : Int) : Option (Int) :=
  (f_laws_heldIntS.l0 N x0 x1 0 0).bind fun r176 =>
  cs r176 (fun a177 =>
    some a177) (fun b178 =>
    some b178.1)
noncomputable def C52 : Con := ⟨[(.B, false, [(.sl R1)]), (.B, false, [(.int .i64)])], [(false, [(.int .i64)])], [(.sl R1), (.int .i64)], [(.int .i64)], fun (p : List Int × Int) => f_laws_heldIntS p.1 p.2⟩
noncomputable def f_laws_heldIntS.l0.c : LoopCon := ⟨1000, 6, [0, 1, 4, 5], ⟨[(0, .bor none R1 []), (1, .int .i64 0), (4, .int .i64 0), (5, .int .i64 0)], [], 1000⟩, [(.sl R1), (.int .i64), (.int .i64), (.int .i64)], [⟨.ret, [4], ⟨[(4, .int .i64 0)], [], 1000⟩, [(.int .i64)]⟩, ⟨.exit 0, [1, 4], ⟨[(1, .int .i64 0), (4, .int .i64 0)], [], 1000⟩, [(.int .i64), (.int .i64)]⟩], fun (p : List Int × Int × Int × Int) => f_laws_heldIntS.l0 N p.1 p.2.1 p.2.2.1 p.2.2.2⟩
noncomputable abbrev K52 : Cons := []
noncomputable abbrev L52 : List (Nat × Loops) := [(52, [(2, f_laws_heldIntS.l0.c)])]
abbrev Q52 : List (Nat × List (Int × Nat) × Nat) := []
noncomputable abbrev X52 : Nat → Ctx := ctxOf tb K52 L52 Q52
theorem f_laws_heldIntS.l0.ok : ∀ n p, (fun (p : List Int × Int × Int × Int) => f_laws_heldIntS.l0 n p.1 p.2.1 p.2.2.1 p.2.2.2) p = iterD (roundOf fs X52 6 52 2 false f_laws_heldIntS.l0.c) n p :=
  iter_of (l := fun n => fun (p : List Int × Int × Int × Int) => f_laws_heldIntS.l0 n p.1 p.2.1 p.2.2.1 p.2.2.2) (fun _ => rfl) (fun n p => by kernel_rfl)
theorem E52 : ∀ x, funRun fs X52 6 52 C52 x = C52.fn x := fun x => by kernel_rfl
theorem B52 : ConB Try.prog 52 C52 := ConB.make FS MIX TY (cons := K52) (L := L52) (ptrs := Q52) trivial trivial ⟨⟨⟨N, fun p => f_laws_heldIntS.l0.ok N p⟩, trivial⟩, trivial⟩ rfl rfl E52
theorem S52 : ConS Try.prog 52 C52 := B52.call rfl
/-! laws.heldMsg: function 38 -/
noncomputable def f_laws_heldMsg (x0 : Int) (x1 : Int) (x2 : Bool) (x3 : List Int) (x4 : Int) : Option (Int) :=
  (f_laws_heldIntS x3 x4).bind fun y179 =>
  bif (decide (y179 < (0 : Int))) then
    some (-1)
  else
    some y179
noncomputable def C38 : Con := ⟨[(.B, true, [(.int .i64), (.int .i64), .bool, (.sl R1)]), (.B, false, [(.int .i64)])], [(false, [(.int .i64)])], [(.int .i64), (.int .i64), .bool, (.sl R1), (.int .i64)], [(.int .i64)], fun (p : Int × Int × Bool × List Int × Int) => f_laws_heldMsg p.1 p.2.1 p.2.2.1 p.2.2.2.1 p.2.2.2.2⟩
noncomputable abbrev K38 : Cons := [(52, C52)]
noncomputable abbrev L38 : List (Nat × Loops) := []
abbrev Q38 : List (Nat × List (Int × Nat) × Nat) := []
noncomputable abbrev X38 : Nat → Ctx := ctxOf tb K38 L38 Q38
theorem E38 : ∀ x, funRun fs X38 6 38 C38 x = C38.fn x := fun x => by kernel_rfl
theorem B38 : ConB Try.prog 38 C38 := ConB.make FS MIX TY (cons := K38) (L := L38) (ptrs := Q38) ⟨S52, trivial⟩ trivial trivial rfl rfl E38
theorem S38 : ConS Try.prog 38 C38 := B38.call rfl
/-! laws.FnExactMsgOf: function 6 -/
noncomputable def f_laws_FnExactMsgOf (x0 : List Int) : Option (Bool) :=
  bif (decide ((1048576 : Int) < (x0.length : Int))) then
    some true
  else
    (f_laws_toByteS x0).bind fun y180 =>
    (f_spec_MsgOf y180).bind fun y181 =>
    (f_laws_toByteS x0).bind fun y182 =>
    (f_impl_MsgOf y182).bind fun y183 =>
    (f_laws_eqMsg y183.1 y183.2.1 y183.2.2.1 y183.2.2.2.1 y181.1 y181.2.1 y181.2.2.1 y181.2.2.2.1).bind fun y184 =>
    bif (!y184) then
      some false
    else
      bif (!(y183.2.2.2.2 == y181.2.2.2.2)) then
        some false
      else
        (f_laws_toByteS x0).bind fun y185 =>
        (f_laws_eqByteS y182 y185).bind fun y186 =>
        bif (!y186) then
          some false
        else
          (f_laws_markByteS y182 1).bind fun y187 =>
          (some (y187.2 : List Int)).bind fun z188 =>
          bif (decide (y187.1 < (0 : Int))) then
            some false
          else
            (f_laws_eqMsg y183.1 y183.2.1 y183.2.2.1 y183.2.2.2.1 y181.1 y181.2.1 y181.2.2.1 y181.2.2.2.1).bind fun y189 =>
            bif (!y189) then
              some false
            else
              bif (!(y183.2.2.2.2 == y181.2.2.2.2)) then
                some false
              else
                (f_laws_markMsg y183.1 y183.2.1 y183.2.2.1 y183.2.2.2.1 1).bind fun y190 =>
                (some (y190.2 : List Int)).bind fun z191 =>
                (f_laws_heldMsg y183.1 y183.2.1 y183.2.2.1 z191 1).bind fun y192 =>
                bif (decide (y192 < (0 : Int))) then
                  some false
                else
                  bif (!(decide (y192 = y190.1))) then
                    some false
                  else
                    (f_laws_toByteS x0).bind fun y193 =>
                    (f_impl_MsgOf y193).bind fun y194 =>
                    (f_laws_eqMsg y194.1 y194.2.1 y194.2.2.1 y194.2.2.2.1 y181.1 y181.2.1 y181.2.2.1 y181.2.2.2.1).bind fun y195 =>
                    bif (!y195) then
                      some false
                    else
                      bif (!(y194.2.2.2.2 == y181.2.2.2.2)) then
                        some false
                      else
                        (f_laws_heldMsg y183.1 y183.2.1 y183.2.2.1 z191 1).bind fun y196 =>
                        bif (decide (y196 < (0 : Int))) then
                          some false
                        else
                          bif (!(decide (y196 = y190.1))) then
                            some false
                          else
                            some true
noncomputable def C6 : Con := ⟨[(.B, false, [(.sl R0)])], [(false, [.bool])], [(.sl R0)], [.bool], fun (p : List Int) => f_laws_FnExactMsgOf p⟩
noncomputable abbrev K6 : Cons := [(18, C18), (19, C19), (20, C20), (21, C21), (38, C38), (39, C39), (40, C40), (41, C41)]
noncomputable abbrev L6 : List (Nat × Loops) := []
abbrev Q6 : List (Nat × List (Int × Nat) × Nat) := []
noncomputable abbrev X6 : Nat → Ctx := ctxOf tb K6 L6 Q6
theorem E6 : ∀ x, funRun fs X6 6 6 C6 x = C6.fn x := fun x => by kernel_rfl
theorem B6 : ConB Try.prog 6 C6 := ConB.make FS MIX TY (cons := K6) (L := L6) (ptrs := Q6) ⟨S18, S19, S20, S21, S38, S39, S40, S41, trivial⟩ trivial trivial rfl rfl E6
theorem S6 : ConS Try.prog 6 C6 := B6.call rfl
/-- What is left: the plain law. -/
def Pure : Prop := ∀ x : Tup [(.sl R0)], WfT [(.sl R0)] x → C6.fn x = some (true : Bool)
end
end Go.Abs
