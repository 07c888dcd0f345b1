import Derived.Test.YtgifligfbjnmfaaProg
import Derived.Test.YtgifligfbjnmfaaAbsD
import Derived.KernelRfl
namespace Go.Abs
open Go.Proofs
set_option linter.unusedVariables false
set_option maxRecDepth 100000
noncomputable section
abbrev N : Nat := 1152921504606846976
abbrev R0 : RT := .one (.int .i64)
abbrev R1 : RT := .one (.int .u8)
noncomputable def tb : Tb := [(0, ⟨false, [], [], 0, 0⟩),
  (3, ⟨false, [(.int .i64)], [], 0, 8⟩),
  (4, ⟨false, [.bool], [], 0, 1⟩),
  (5, ⟨false, [(.int .u8)], [], 0, 1⟩),
  (22, ⟨false, [(.sl R0)], [], 3, 24⟩),
  (24, ⟨true, [(.int .i64), (.int .i64), .bool, (.sl R0)], [(0, 3), (1, 3), (2, 4), (3, 22)], 0, 48⟩),
  (26, ⟨false, [(.sl R1)], [], 5, 24⟩),
  (28, ⟨true, [(.int .i64), (.int .i64), .bool, (.sl R0)], [(0, 3), (1, 3), (2, 4), (3, 22)], 0, 48⟩),
  (119, ⟨false, [], [], 0, 8⟩)]
noncomputable def fsL : List (Nat × Func) := [(90, Try.f90), (14, Try.f14), (24, Try.f24), (16, Try.f16), (94, Try.f94), (112, Try.f112), (91, Try.f91), (56, Try.f56), (92, Try.f92), (15, Try.f15), (118, Try.f118), (157, Try.f157), (109, Try.f109), (163, Try.f163), (181, Try.f181), (162, Try.f162), (125, Try.f125), (93, Try.f93), (55, Try.f55), (17, Try.f17), (18, Try.f18), (27, Try.f27), (19, Try.f19), (28, Try.f28), (20, Try.f20), (21, Try.f21), (22, Try.f22), (3, Try.f3)]
noncomputable def fs : Nat → Option Func := getF fsL
theorem MIX : Try.prog.follows .mixedOrders = true := by kernel_rfl
theorem TY : tyCheck Try.prog tb = true := by kernel_rfl
theorem CAT : catCheck tb = true := by kernel_rfl
theorem FSP : FsP Try.prog fsL := ⟨Try.func90, Try.func14, Try.func24, Try.func16, Try.func94, Try.func112, Try.func91, Try.func56, Try.func92, Try.func15, Try.func118, Try.func157, Try.func109, Try.func163, Try.func181, Try.func162, Try.func125, Try.func93, Try.func55, Try.func17, Try.func18, Try.func27, Try.func19, Try.func28, Try.func20, Try.func21, Try.func22, Try.func3, trivial⟩
theorem FSC : (fsL.all fun p => fnChk p.2) = true := by kernel_rfl
theorem FS : FsS Try.prog fs := FsS.of FSP FSC
/-! laws.szIntS: function 90 -/
noncomputable def f_laws_szIntS (x0 : List Int) (x1 : Int) : Option (Int) :=
  bif (decide ((IntKind.wrap .i64 (x1 - (x0.length : Int))) < (0 : Int))) then
    some (-1)
  else
    some (IntKind.wrap .i64 (x1 - (x0.length : Int)))
noncomputable def C90 : Con := ⟨[(.B, false, [(.sl R0)]), (.B, false, [(.int .i64)])], [(false, [(.int .i64)])], [(.sl R0), (.int .i64)], [(.int .i64)], fun (p : List Int × Int) => f_laws_szIntS p.1 p.2⟩
noncomputable abbrev K90 : Cons := []
noncomputable abbrev L90 : List (Nat × Loops) := []
abbrev Q90 : List (Nat × List (Int × Nat) × Nat) := []
noncomputable abbrev X90 : Nat → Ctx := ctxOf tb K90 L90 Q90
theorem E90 : ∀ x, funRun fs X90 6 90 C90 x = C90.fn x := fun x => by kernel_rfl
theorem B90 : ConB Try.prog 90 C90 := ConB.make FS MIX TY (cons := K90) (L := L90) (ptrs := Q90) trivial trivial trivial rfl rfl E90
theorem S90 : ConS Try.prog 90 C90 := B90.call rfl
/-! laws.szMsg: function 14 -/
noncomputable def f_laws_szMsg (x0 : Int) (x1 : Int) (x2 : Bool) (x3 : List Int) (x4 : Int) : Option (Int) :=
  (f_laws_szIntS x3 x4).bind fun y1 =>
  bif (decide (y1 < (0 : Int))) then
    some (-1)
  else
    some y1
noncomputable def C14 : Con := ⟨[(.B, true, [(.int .i64), (.int .i64), .bool, (.sl R0)]), (.B, false, [(.int .i64)])], [(false, [(.int .i64)])], [(.int .i64), (.int .i64), .bool, (.sl R0), (.int .i64)], [(.int .i64)], fun (p : Int × Int × Bool × List Int × Int) => f_laws_szMsg p.1 p.2.1 p.2.2.1 p.2.2.2.1 p.2.2.2.2⟩
noncomputable abbrev K14 : Cons := [(90, C90)]
noncomputable abbrev L14 : List (Nat × Loops) := []
abbrev Q14 : List (Nat × List (Int × Nat) × Nat) := []
noncomputable abbrev X14 : Nat → Ctx := ctxOf tb K14 L14 Q14
theorem E14 : ∀ x, funRun fs X14 6 14 C14 x = C14.fn x := fun x => by kernel_rfl
theorem B14 : ConB Try.prog 14 C14 := ConB.make FS MIX TY (cons := K14) (L := L14) (ptrs := Q14) ⟨S90, trivial⟩ trivial trivial rfl rfl E14
theorem S14 : ConS Try.prog 14 C14 := B14.call rfl
/-! laws.toIntS: function 24 -/
noncomputable def f_laws_toIntS.l0 : Nat → (List Int) → Int → (List Int) → Option (List Int)
  | 0, _, _, _ => none
  | n + 1, p2, p3, p4 =>
    bif (decide (p3 < (p2.length : Int))) then
      bif ((decide ((0 : Int) ≤ p3)) && (decide (p3 < (p2.length : Int)))) then
      bif ((decide ((0 : Int) ≤ p3)) && (decide (p3 < (p4.length : Int)))) then
      (some ((p4.set p3.toNat (p2.getD p3.toNat 0)) : List Int)).bind fun z5 =>
      f_laws_toIntS.l0 n p2 (IntKind.wrap .i64 (p3 + (1 : Int))) z5
      else none
      else none
    else
      some p4
noncomputable def f_laws_toIntS (x0 : List Int) : Option (List Int) :=
  bif (decide ((0 : Int) ≤ (x0.length : Int)) && Nat.ble (x0.length : Int).toNat 17592186044416) then
  (f_laws_toIntS.l0 N x0 0 (List.replicate (x0.length : Int).toNat 0)).bind fun r6 =>
  some r6
  else none
noncomputable def C24 : Con := ⟨[(.B, false, [(.sl R0)])], [(false, [(.sl R0)])], [(.sl R0)], [(.sl R0)], fun (p : List Int) => f_laws_toIntS p⟩
noncomputable def f_laws_toIntS.l0.c : LoopCon := ⟨1000, 6, [0, 2, 3, 4], ⟨[(0, .bor none R0 []), (2, .nil (some R0)), (3, .ref 1000 [] none), (4, .int .i64 0)], [(1000, .row R0 [])], 1001⟩, [(.sl R0), (.int .i64), (.sl R0)], [⟨.exit 0, [2, 3], ⟨[(2, .nil (some R0)), (3, .ref 1000 [] none)], [(1000, .row R0 [])], 1001⟩, [(.sl R0)]⟩], fun (p : List Int × Int × List Int) => f_laws_toIntS.l0 N p.1 p.2.1 p.2.2⟩
noncomputable abbrev K24 : Cons := []
noncomputable abbrev L24 : List (Nat × Loops) := [(24, [(3, f_laws_toIntS.l0.c)])]
abbrev Q24 : List (Nat × List (Int × Nat) × Nat) := []
noncomputable abbrev X24 : Nat → Ctx := ctxOf tb K24 L24 Q24
theorem f_laws_toIntS.l0.ok : ∀ n p, (fun (p : List Int × Int × List Int) => f_laws_toIntS.l0 n p.1 p.2.1 p.2.2) p = iterD (roundOf fs X24 6 24 3 false f_laws_toIntS.l0.c) n p :=
  iter_of (l := fun n => fun (p : List Int × Int × List Int) => f_laws_toIntS.l0 n p.1 p.2.1 p.2.2) (fun _ => rfl) (fun n p => by kernel_rfl)
theorem E24 : ∀ x, funRun fs X24 6 24 C24 x = C24.fn x := fun x => by kernel_rfl
theorem B24 : ConB Try.prog 24 C24 := ConB.make FS MIX TY (cons := K24) (L := L24) (ptrs := Q24) trivial trivial ⟨⟨⟨N, fun p => f_laws_toIntS.l0.ok N p⟩, trivial⟩, trivial⟩ rfl rfl E24
theorem S24 : ConS Try.prog 24 C24 := B24.call rfl
/-! laws.toMsg: function 16 -/
noncomputable def f_laws_toMsg (x0 : Int) (x1 : Int) (x2 : Bool) (x3 : List Int) : Option (Int × Int × Bool × List Int) :=
  (f_laws_toIntS x3).bind fun y7 =>
  some (x0, x1, x2, y7)
noncomputable def C16 : Con := ⟨[(.B, true, [(.int .i64), (.int .i64), .bool, (.sl R0)])], [(true, [(.int .i64), (.int .i64), .bool, (.sl R0)])], [(.int .i64), (.int .i64), .bool, (.sl R0)], [(.int .i64), (.int .i64), .bool, (.sl R0)], fun (p : Int × Int × Bool × List Int) => f_laws_toMsg p.1 p.2.1 p.2.2.1 p.2.2.2⟩
noncomputable abbrev K16 : Cons := [(24, C24)]
noncomputable abbrev L16 : List (Nat × Loops) := []
abbrev Q16 : List (Nat × List (Int × Nat) × Nat) := []
noncomputable abbrev X16 : Nat → Ctx := ctxOf tb K16 L16 Q16
theorem E16 : ∀ x, funRun fs X16 6 16 C16 x = C16.fn x := fun x => by kernel_rfl
theorem B16 : ConB Try.prog 16 C16 := ConB.make FS MIX TY (cons := K16) (L := L16) (ptrs := Q16) ⟨S24, trivial⟩ trivial trivial rfl rfl E16
theorem S16 : ConS Try.prog 16 C16 := B16.call rfl
/-! spec.l1In: function 94 -/
noncomputable def f_spec_l1In (x0 : Int) (x1 : Int) (x2 : Int) : Option (Bool) :=
  bif (decide (x1 ≤ x0)) then
    some (decide (x0 ≤ x2))
  else
    some false
noncomputable def C94 : Con := ⟨[(.B, false, [(.int .i64)]), (.B, false, [(.int .i64)]), (.B, false, [(.int .i64)])], [(false, [.bool])], [(.int .i64), (.int .i64), (.int .i64)], [.bool], fun (p : Int × Int × Int) => f_spec_l1In p.1 p.2.1 p.2.2⟩
noncomputable abbrev K94 : Cons := []
noncomputable abbrev L94 : List (Nat × Loops) := []
abbrev Q94 : List (Nat × List (Int × Nat) × Nat) := []
noncomputable abbrev X94 : Nat → Ctx := ctxOf tb K94 L94 Q94
theorem E94 : ∀ x, funRun fs X94 6 94 C94 x = C94.fn x := fun x => by kernel_rfl
theorem B94 : ConB Try.prog 94 C94 := ConB.make FS MIX TY (cons := K94) (L := L94) (ptrs := Q94) trivial trivial trivial rfl rfl E94
theorem S94 : ConS Try.prog 94 C94 := B94.call rfl
/-! spec.l1Words: function 112 -/
noncomputable def f_spec_l1Words.l0 : Nat → (List Int) → Int → Bool → Int → Option ((Bool) ⊕ (List Int × Int × Bool))
  | 0, _, _, _, _ => none
  | n + 1, p8, p9, p10, p11 =>
    bif (decide (p11 < (p8.length : Int))) then
      bif ((decide ((0 : Int) ≤ p11)) && (decide (p11 < (p8.length : Int)))) then
      (f_spec_l1In (p8.getD p11.toNat 0) 0 65535).bind fun y12 =>
      bif (!y12) then
        some (.inl false)
      else
        f_spec_l1Words.l0 n p8 p9 p10 (IntKind.wrap .i64 (p11 + (1 : Int)))
      else none
    else
      some (.inr (p8, p9, p10))
noncomputable def f_spec_l1Words (x0 : List Int) (x1 : Int) : Option (Bool) :=
  (f_spec_l1Words.l0 N x0 x1 false 0).bind fun r13 =>
  cs r13 (fun a14 =>
    some a14) (fun b15 =>
    some (decide ((b15.1.length : Int) = b15.2.1)))
noncomputable def C112 : Con := ⟨[(.B, false, [(.sl R0)]), (.B, false, [(.int .i64)])], [(false, [.bool])], [(.sl R0), (.int .i64)], [.bool], fun (p : List Int × Int) => f_spec_l1Words p.1 p.2⟩
noncomputable def f_spec_l1Words.l0.c : LoopCon := ⟨1000, 6, [0, 1, 4, 5], ⟨[(0, .bor none R0 []), (1, .int .i64 0), (4, .bool false), (5, .int .i64 0)], [], 1000⟩, [(.sl R0), (.int .i64), .bool, (.int .i64)], [⟨.ret, [4], ⟨[(4, .bool false)], [], 1000⟩, [.bool]⟩, ⟨.exit 0, [0, 1, 4], ⟨[(0, .bor none R0 []), (1, .int .i64 0), (4, .bool false)], [], 1000⟩, [(.sl R0), (.int .i64), .bool]⟩], fun (p : List Int × Int × Bool × Int) => f_spec_l1Words.l0 N p.1 p.2.1 p.2.2.1 p.2.2.2⟩
noncomputable abbrev K112 : Cons := [(94, C94)]
noncomputable abbrev L112 : List (Nat × Loops) := [(112, [(2, f_spec_l1Words.l0.c)])]
abbrev Q112 : List (Nat × List (Int × Nat) × Nat) := []
noncomputable abbrev X112 : Nat → Ctx := ctxOf tb K112 L112 Q112
theorem f_spec_l1Words.l0.ok : ∀ n p, (fun (p : List Int × Int × Bool × Int) => f_spec_l1Words.l0 n p.1 p.2.1 p.2.2.1 p.2.2.2) p = iterD (roundOf fs X112 6 112 2 false f_spec_l1Words.l0.c) n p :=
  iter_of (l := fun n => fun (p : List Int × Int × Bool × Int) => f_spec_l1Words.l0 n p.1 p.2.1 p.2.2.1 p.2.2.2) (fun _ => rfl) (fun n p => by kernel_rfl)
theorem E112 : ∀ x, funRun fs X112 6 112 C112 x = C112.fn x := fun x => by kernel_rfl
theorem B112 : ConB Try.prog 112 C112 := ConB.make FS MIX TY (cons := K112) (L := L112) (ptrs := Q112) ⟨S94, trivial⟩ trivial ⟨⟨⟨N, fun p => f_spec_l1Words.l0.ok N p⟩, trivial⟩, trivial⟩ rfl rfl E112
theorem S112 : ConS Try.prog 112 C112 := B112.call rfl
/-! spec.MsgOk: function 91 -/
noncomputable def f_spec_MsgOk (x0 : Int) (x1 : Int) (x2 : Bool) (x3 : List Int) : Option (Bool) :=
  bif (decide (x0 = (3 : Int))) then
    bif (decide (x0 = (3 : Int))) then
      (f_spec_l1In x0 1 7).bind fun y16 =>
      bif y16 then
        (f_spec_l1In x1 0 5).bind fun y17 =>
        bif y17 then
          (f_spec_l1Words x3 4).bind fun y18 =>
          some y18
        else
          some false
      else
        some false
    else
      (f_spec_l1In x0 1 7).bind fun y19 =>
      bif y19 then
        (f_spec_l1In x1 0 5).bind fun y20 =>
        bif y20 then
          bif (decide (x0 = (6 : Int))) then
            (f_spec_l1Words x3 4).bind fun y21 =>
            some y21
          else
            bif (!x2) then
              (f_spec_l1Words x3 4).bind fun y22 =>
              some y22
            else
              some false
        else
          some false
      else
        some false
  else
    bif (decide (x0 = (7 : Int))) then
      bif (decide (x0 = (3 : Int))) then
        (f_spec_l1In x0 1 7).bind fun y23 =>
        bif y23 then
          (f_spec_l1In x1 0 5).bind fun y24 =>
          bif y24 then
            (f_spec_l1Words x3 4).bind fun y25 =>
            some y25
          else
            some false
        else
          some false
      else
        (f_spec_l1In x0 1 7).bind fun y26 =>
        bif y26 then
          (f_spec_l1In x1 0 5).bind fun y27 =>
          bif y27 then
            bif (decide (x0 = (6 : Int))) then
              (f_spec_l1Words x3 4).bind fun y28 =>
              some y28
            else
              bif (!x2) then
                (f_spec_l1Words x3 4).bind fun y29 =>
                some y29
              else
                some false
          else
            some false
        else
          some false
    else
      bif (decide (x0 = (3 : Int))) then
        (f_spec_l1In x0 1 7).bind fun y30 =>
        bif y30 then
          (f_spec_l1In x1 0 5).bind fun y31 =>
          bif y31 then
            (f_spec_l1Words x3 0).bind fun y32 =>
            some y32
          else
            some false
        else
          some false
      else
        (f_spec_l1In x0 1 7).bind fun y33 =>
        bif y33 then
          (f_spec_l1In x1 0 5).bind fun y34 =>
          bif y34 then
            bif (decide (x0 = (6 : Int))) then
              (f_spec_l1Words x3 0).bind fun y35 =>
              some y35
            else
              bif (!x2) then
                (f_spec_l1Words x3 0).bind fun y36 =>
                some y36
              else
                some false
          else
            some false
        else
          some false
noncomputable def C91 : Con := ⟨[(.B, true, [(.int .i64), (.int .i64), .bool, (.sl R0)])], [(false, [.bool])], [(.int .i64), (.int .i64), .bool, (.sl R0)], [.bool], fun (p : Int × Int × Bool × List Int) => f_spec_MsgOk p.1 p.2.1 p.2.2.1 p.2.2.2⟩
noncomputable abbrev K91 : Cons := [(94, C94), (112, C112)]
noncomputable abbrev L91 : List (Nat × Loops) := []
abbrev Q91 : List (Nat × List (Int × Nat) × Nat) := []
noncomputable abbrev X91 : Nat → Ctx := ctxOf tb K91 L91 Q91
theorem E91 : ∀ x, funRun fs X91 6 91 C91 x = C91.fn x := fun x => by kernel_rfl
theorem B91 : ConB Try.prog 91 C91 := ConB.make FS MIX TY (cons := K91) (L := L91) (ptrs := Q91) ⟨S94, S112, trivial⟩ trivial trivial rfl rfl E91
theorem S91 : ConS Try.prog 91 C91 := B91.call rfl
/-! spec.PutNum: function 56 -/
noncomputable def f_spec_PutNum.l0 : Nat → Int → (List Int) → Option (Int × List Int)
  | 0, _, _ => none
  | n + 1, p38, p39 =>
    bif (decide ((127 : Int) < p38)) then
      bif (Nat.blt (p39.length + ([(IntKind.wrap .u8 ((IntKind.wrap .i64 ((Int.tmod p38 (128 : Int)) + (128 : Int)))))] : List Int).length) 140737488355328) then
      (some ((p39 ++ ([(IntKind.wrap .u8 ((IntKind.wrap .i64 ((Int.tmod p38 (128 : Int)) + (128 : Int)))))] : List Int)) : List Int)).bind fun z40 =>
      f_spec_PutNum.l0 n (IntKind.wrap .i64 (Int.tdiv p38 (128 : Int))) z40
      else none
    else
      some (p38, p39)
noncomputable def f_spec_PutNum (x0 : Int) : Option (List Int) :=
  (f_spec_l1In x0 0 100000).bind fun y37 =>
  bif (!y37) then
    some ([] : List Int)
  else
    (f_spec_PutNum.l0 N x0 ([] : List Int)).bind fun r41 =>
    bif (Nat.blt (r41.2.length + ([(IntKind.wrap .u8 (r41.1))] : List Int).length) 140737488355328) then
    (some ((r41.2 ++ ([(IntKind.wrap .u8 (r41.1))] : List Int)) : List Int)).bind fun z42 =>
    some z42
    else none
noncomputable def C56 : Con := ⟨[(.B, false, [(.int .i64)])], [(false, [(.sl R1)])], [(.int .i64)], [(.sl R1)], fun (p : Int) => f_spec_PutNum p⟩
noncomputable def f_spec_PutNum.l0.c : LoopCon := ⟨1000, 6, [0, 2, 3], ⟨[(0, .int .i64 0), (2, .nil (some R1)), (3, .ref 1000 [] none)], [(1000, .row R1 [])], 1001⟩, [(.int .i64), (.sl R1)], [⟨.exit 0, [0, 2, 3], ⟨[(0, .int .i64 0), (2, .nil (some R1)), (3, .ref 1000 [] none)], [(1000, .row R1 [])], 1001⟩, [(.int .i64), (.sl R1)]⟩], fun (p : Int × List Int) => f_spec_PutNum.l0 N p.1 p.2⟩
noncomputable abbrev K56 : Cons := [(94, C94)]
noncomputable abbrev L56 : List (Nat × Loops) := [(56, [(4, f_spec_PutNum.l0.c)])]
abbrev Q56 : List (Nat × List (Int × Nat) × Nat) := []
noncomputable abbrev X56 : Nat → Ctx := ctxOf tb K56 L56 Q56
theorem f_spec_PutNum.l0.ok : ∀ n p, (fun (p : Int × List Int) => f_spec_PutNum.l0 n p.1 p.2) p = iterD (roundOf fs X56 6 56 4 false f_spec_PutNum.l0.c) n p :=
  iter_of (l := fun n => fun (p : Int × List Int) => f_spec_PutNum.l0 n p.1 p.2) (fun _ => rfl) (fun n p => by kernel_rfl)
theorem E56 : ∀ x, funRun fs X56 6 56 C56 x = C56.fn x := fun x => by kernel_rfl
theorem B56 : ConB Try.prog 56 C56 := ConB.make FS MIX TY (cons := K56) (L := L56) (ptrs := Q56) ⟨S94, trivial⟩ trivial ⟨⟨⟨N, fun p => f_spec_PutNum.l0.ok N p⟩, trivial⟩, trivial⟩ rfl rfl E56
theorem S56 : ConS Try.prog 56 C56 := B56.call rfl
/-! spec.l1Bit: function 92 -/
noncomputable def f_spec_l1Bit (x0 : Bool) : Option (Int) :=
  bif x0 then
    some 1
  else
    some 0
noncomputable def C92 : Con := ⟨[(.B, false, [.bool])], [(false, [(.int .i64)])], [.bool], [(.int .i64)], fun (p : Bool) => f_spec_l1Bit p⟩
noncomputable abbrev K92 : Cons := []
noncomputable abbrev L92 : List (Nat × Loops) := []
abbrev Q92 : List (Nat × List (Int × Nat) × Nat) := []
noncomputable abbrev X92 : Nat → Ctx := ctxOf tb K92 L92 Q92
theorem E92 : ∀ x, funRun fs X92 6 92 C92 x = C92.fn x := fun x => by kernel_rfl
theorem B92 : ConB Try.prog 92 C92 := ConB.make FS MIX TY (cons := K92) (L := L92) (ptrs := Q92) trivial trivial trivial rfl rfl E92
theorem S92 : ConS Try.prog 92 C92 := B92.call rfl
/-! spec.MsgBytes: function 15 -/
noncomputable def f_spec_MsgBytes.l0 : Nat → Int → Int → Int → Bool → (List Int) → (List Int) → Option (List Int)
  | 0, _, _, _, _, _, _ => none
  | n + 1, p50, p51, p52, p53, p54, p55 =>
    bif (decide (p50 < (p54.length : Int))) then
      bif ((decide ((0 : Int) ≤ p50)) && (decide (p50 < (p54.length : Int)))) then
      (f_spec_PutNum (p54.getD p50.toNat 0)).bind fun y56 =>
      bif (Nat.blt (p55.length + y56.length) 140737488355328) then
      (some ((p55 ++ y56) : List Int)).bind fun z57 =>
      f_spec_MsgBytes.l0 n (IntKind.wrap .i64 (p50 + (1 : Int))) p51 p52 p53 p54 z57
      else none
      else none
    else
      some p55
noncomputable def f_spec_MsgBytes (x0 : Int) (x1 : Int) (x2 : Bool) (x3 : List Int) : Option (List Int) :=
  (f_spec_MsgOk x0 x1 x2 x3).bind fun y43 =>
  bif (!y43) then
    some ([] : List Int)
  else
    (f_spec_PutNum x0).bind fun y44 =>
    (f_spec_PutNum x1).bind fun y45 =>
    bif (Nat.blt (y44.length + y45.length) 140737488355328) then
    (some ((y44 ++ y45) : List Int)).bind fun z46 =>
    (f_spec_l1Bit x2).bind fun y47 =>
    (f_spec_PutNum y47).bind fun y48 =>
    bif (Nat.blt (z46.length + y48.length) 140737488355328) then
    (some ((z46 ++ y48) : List Int)).bind fun z49 =>
    (f_spec_MsgBytes.l0 N 0 x0 x1 x2 x3 z49).bind fun r58 =>
    some r58
    else none
    else none
noncomputable def C15 : Con := ⟨[(.B, true, [(.int .i64), (.int .i64), .bool, (.sl R0)])], [(false, [(.sl R1)])], [(.int .i64), (.int .i64), .bool, (.sl R0)], [(.sl R1)], fun (p : Int × Int × Bool × List Int) => f_spec_MsgBytes p.1 p.2.1 p.2.2.1 p.2.2.2⟩
noncomputable def f_spec_MsgBytes.l0.c : LoopCon := ⟨1000, 6, [1, 2, 3, 4], ⟨[(1, .ptr 1000 0), (2, .nil (some R1)), (3, .ref 1001 [] none), (4, .int .i64 0)], [(1000, .box [.int .i64 0, .int .i64 0, .bool false, .bor none R0 []]), (1001, .row R1 [])], 1002⟩, [(.int .i64), (.int .i64), (.int .i64), .bool, (.sl R0), (.sl R1)], [⟨.exit 0, [2, 3], ⟨[(2, .nil (some R1)), (3, .ref 1000 [] none)], [(1000, .row R1 [])], 1001⟩, [(.sl R1)]⟩], fun (p : Int × Int × Int × Bool × List Int × List Int) => f_spec_MsgBytes.l0 N p.1 p.2.1 p.2.2.1 p.2.2.2.1 p.2.2.2.2.1 p.2.2.2.2.2⟩
noncomputable abbrev K15 : Cons := [(56, C56), (91, C91), (92, C92)]
noncomputable abbrev L15 : List (Nat × Loops) := [(15, [(6, f_spec_MsgBytes.l0.c)])]
abbrev Q15 : List (Nat × List (Int × Nat) × Nat) := []
noncomputable abbrev X15 : Nat → Ctx := ctxOf tb K15 L15 Q15
theorem f_spec_MsgBytes.l0.ok : ∀ n p, (fun (p : Int × Int × Int × Bool × List Int × List Int) => f_spec_MsgBytes.l0 n p.1 p.2.1 p.2.2.1 p.2.2.2.1 p.2.2.2.2.1 p.2.2.2.2.2) p = iterD (roundOf fs X15 6 15 6 false f_spec_MsgBytes.l0.c) n p :=
  iter_of (l := fun n => fun (p : Int × Int × Int × Bool × List Int × List Int) => f_spec_MsgBytes.l0 n p.1 p.2.1 p.2.2.1 p.2.2.2.1 p.2.2.2.2.1 p.2.2.2.2.2) (fun _ => rfl) (fun n p => by kernel_rfl)
theorem E15 : ∀ x, funRun fs X15 6 15 C15 x = C15.fn x := fun x => by kernel_rfl
theorem B15 : ConB Try.prog 15 C15 := ConB.make FS MIX TY (cons := K15) (L := L15) (ptrs := Q15) ⟨S56, S91, S92, trivial⟩ trivial ⟨⟨⟨N, fun p => f_spec_MsgBytes.l0.ok N p⟩, trivial⟩, trivial⟩ rfl rfl E15
theorem S15 : ConS Try.prog 15 C15 := B15.call rfl
/-! impl.from: function 118 -/
noncomputable def f_impl_from (x0 : Int) (x1 : Int) (x2 : Int) : Option (Bool) :=
  bif (decide (x1 ≤ x0)) then
    some (decide (x0 ≤ x2))
  else
    some false
noncomputable def C118 : Con := ⟨[(.B, false, [(.int .i64)]), (.B, false, [(.int .i64)]), (.B, false, [(.int .i64)])], [(false, [.bool])], [(.int .i64), (.int .i64), (.int .i64)], [.bool], fun (p : Int × Int × Int) => f_impl_from p.1 p.2.1 p.2.2⟩
noncomputable abbrev K118 : Cons := []
noncomputable abbrev L118 : List (Nat × Loops) := []
abbrev Q118 : List (Nat × List (Int × Nat) × Nat) := []
noncomputable abbrev X118 : Nat → Ctx := ctxOf tb K118 L118 Q118
theorem E118 : ∀ x, funRun fs X118 6 118 C118 x = C118.fn x := fun x => by kernel_rfl
theorem B118 : ConB Try.prog 118 C118 := ConB.make FS MIX TY (cons := K118) (L := L118) (ptrs := Q118) trivial trivial trivial rfl rfl E118
theorem S118 : ConS Try.prog 118 C118 := B118.call rfl
/-! impl.isPage: function 157 -/
noncomputable def f_impl_isPage (x0 : Int) : Option (Bool) :=
  (f_impl_from x0 0 5).bind fun y59 =>
  some y59
noncomputable def C157 : Con := ⟨[(.B, false, [(.int .i64)])], [(false, [.bool])], [(.int .i64)], [.bool], fun (p : Int) => f_impl_isPage p⟩
noncomputable abbrev K157 : Cons := [(118, C118)]
noncomputable abbrev L157 : List (Nat × Loops) := []
abbrev Q157 : List (Nat × List (Int × Nat) × Nat) := []
noncomputable abbrev X157 : Nat → Ctx := ctxOf tb K157 L157 Q157
theorem E157 : ∀ x, funRun fs X157 6 157 C157 x = C157.fn x := fun x => by kernel_rfl
theorem B157 : ConB Try.prog 157 C157 := ConB.make FS MIX TY (cons := K157) (L := L157) (ptrs := Q157) ⟨S118, trivial⟩ trivial trivial rfl rfl E157
theorem S157 : ConS Try.prog 157 C157 := B157.call rfl
/-! impl.isWord: function 109 -/
noncomputable def f_impl_isWord (x0 : Int) : Option (Bool) :=
  (f_impl_from x0 0 65535).bind fun y60 =>
  some y60
noncomputable def C109 : Con := ⟨[(.B, false, [(.int .i64)])], [(false, [.bool])], [(.int .i64)], [.bool], fun (p : Int) => f_impl_isWord p⟩
noncomputable abbrev K109 : Cons := [(118, C118)]
noncomputable abbrev L109 : List (Nat × Loops) := []
abbrev Q109 : List (Nat × List (Int × Nat) × Nat) := []
noncomputable abbrev X109 : Nat → Ctx := ctxOf tb K109 L109 Q109
theorem E109 : ∀ x, funRun fs X109 6 109 C109 x = C109.fn x := fun x => by kernel_rfl
theorem B109 : ConB Try.prog 109 C109 := ConB.make FS MIX TY (cons := K109) (L := L109) (ptrs := Q109) ⟨S118, trivial⟩ trivial trivial rfl rfl E109
theorem S109 : ConS Try.prog 109 C109 := B109.call rfl
/-! impl.wordsOk$1: function 163 -/
noncomputable def f_impl_wordsOk_1 (x0 : Int) : Option (Bool) :=
  (f_impl_isWord x0).bind fun y61 =>
  some (!y61)
noncomputable def C163 : Con := ⟨[(.B, false, [(.int .i64)])], [(false, [.bool])], [(.int .i64)], [.bool], fun (p : Int) => f_impl_wordsOk_1 p⟩
noncomputable abbrev K163 : Cons := [(109, C109)]
noncomputable abbrev L163 : List (Nat × Loops) := []
abbrev Q163 : List (Nat × List (Int × Nat) × Nat) := []
noncomputable abbrev X163 : Nat → Ctx := ctxOf tb K163 L163 Q163
theorem E163 : ∀ x, funRun fs X163 6 163 C163 x = C163.fn x := fun x => by kernel_rfl
theorem B163 : ConB Try.prog 163 C163 := ConB.make FS MIX TY (cons := K163) (L := L163) (ptrs := Q163) ⟨S109, trivial⟩ trivial trivial rfl rfl E163
theorem S163 : ConS Try.prog 163 C163 := B163.call rfl
/-! impl.wordsOk: function 125 -/
noncomputable def f_impl_wordsOk.l0 : Nat → (List Int) → Int → Int → Int → Option ((Int) ⊕ (Int))
  | 0, _, _, _, _ => none
  | n + 1, p62, p63, p64, p65 =>
    bif (decide (p65 < p64)) then
      bif ((decide ((0 : Int) ≤ p65)) && (decide (p65 < (p62.length : Int)))) then
      (f_impl_wordsOk_1 (p62.getD p65.toNat 0)).bind fun y66 =>
      bif y66 then
        some (.inl p65)
      else
        f_impl_wordsOk.l0 n p62 p63 p64 (IntKind.wrap .i64 (p65 + (1 : Int)))
      else none
    else
      some (.inr p63)
noncomputable def f_impl_wordsOk (x0 : List Int) (x1 : Int) : Option (Bool) :=
  bif (decide ((x0.length : Int) = x1)) then
    (f_impl_wordsOk.l0 N x0 0 (x0.length : Int) 0).bind fun r67 =>
    cs r67 (fun a68 =>
      some (!(decide ((0 : Int) ≤ a68)))) (fun b69 =>
      some true)
  else
    some false
noncomputable def C125 : Con := ⟨[(.B, false, [(.sl R0)]), (.B, false, [(.int .i64)])], [(false, [.bool])], [(.sl R0), (.int .i64)], [.bool], fun (p : List Int × Int) => f_impl_wordsOk p.1 p.2⟩
noncomputable def f_impl_wordsOk.l0.c : LoopCon := ⟨1274, 4, [0, 1, 4, 7, 8], ⟨[(0, .bor none R0 []), (1, .func 163 []), (4, .int .i64 0), (7, .int .i64 0), (8, .int .i64 0)], [], 1274⟩, [(.sl R0), (.int .i64), (.int .i64), (.int .i64)], [⟨.ret, [4], ⟨[(4, .int .i64 0)], [], 1274⟩, [(.int .i64)]⟩, ⟨.exit 0, [4], ⟨[(4, .int .i64 0)], [], 1274⟩, [(.int .i64)]⟩], fun (p : List Int × Int × Int × Int) => f_impl_wordsOk.l0 N p.1 p.2.1 p.2.2.1 p.2.2.2⟩
noncomputable abbrev K125 : Cons := [(163, C163)]
noncomputable abbrev L125 : List (Nat × Loops) := [(181, [(2, f_impl_wordsOk.l0.c)])]
abbrev Q125 : List (Nat × List (Int × Nat) × Nat) := []
noncomputable abbrev X125 : Nat → Ctx := ctxOf tb K125 L125 Q125
theorem f_impl_wordsOk.l0.ok : ∀ n p, (fun (p : List Int × Int × Int × Int) => f_impl_wordsOk.l0 n p.1 p.2.1 p.2.2.1 p.2.2.2) p = iterD (roundOf fs X125 4 181 2 true f_impl_wordsOk.l0.c) n p :=
  iter_of (l := fun n => fun (p : List Int × Int × Int × Int) => f_impl_wordsOk.l0 n p.1 p.2.1 p.2.2.1 p.2.2.2) (fun _ => rfl) (fun n p => by kernel_rfl)
theorem E125 : ∀ x, funRun fs X125 6 125 C125 x = C125.fn x := fun x => by kernel_rfl
theorem B125 : ConB Try.prog 125 C125 := ConB.make FS MIX TY (cons := K125) (L := L125) (ptrs := Q125) ⟨S163, trivial⟩ trivial ⟨⟨⟨N, fun p => f_impl_wordsOk.l0.ok N p⟩, trivial⟩, trivial⟩ rfl rfl E125
theorem S125 : ConS Try.prog 125 C125 := B125.call rfl
/-! impl.MsgOk: function 93 -/
noncomputable def f_impl_MsgOk (x0 : Int) (x1 : Int) (x2 : Bool) (x3 : List Int) : Option (Bool) :=
  (f_impl_from x0 1 7).bind fun y70 =>
  bif (!y70) then
    some false
  else
    (f_impl_isPage x1).bind fun y71 =>
    bif (!y71) then
      some false
    else
      bif x2 then
        bif (!(decide (x0 = (3 : Int)))) then
          bif (!(decide (x0 = (6 : Int)))) then
            some false
          else
            bif (decide (x0 = (3 : Int))) then
              (f_impl_wordsOk x3 4).bind fun y72 =>
              some y72
            else
              bif (decide (x0 = (7 : Int))) then
                (f_impl_wordsOk x3 4).bind fun y73 =>
                some y73
              else
                some (decide ((x3.length : Int) = (0 : Int)))
        else
          bif (decide (x0 = (3 : Int))) then
            (f_impl_wordsOk x3 4).bind fun y74 =>
            some y74
          else
            bif (decide (x0 = (7 : Int))) then
              (f_impl_wordsOk x3 4).bind fun y75 =>
              some y75
            else
              some (decide ((x3.length : Int) = (0 : Int)))
      else
        bif (decide (x0 = (3 : Int))) then
          (f_impl_wordsOk x3 4).bind fun y76 =>
          some y76
        else
          bif (decide (x0 = (7 : Int))) then
            (f_impl_wordsOk x3 4).bind fun y77 =>
            some y77
          else
            some (decide ((x3.length : Int) = (0 : Int)))
noncomputable def C93 : Con := ⟨[(.B, true, [(.int .i64), (.int .i64), .bool, (.sl R0)])], [(false, [.bool])], [(.int .i64), (.int .i64), .bool, (.sl R0)], [.bool], fun (p : Int × Int × Bool × List Int) => f_impl_MsgOk p.1 p.2.1 p.2.2.1 p.2.2.2⟩
noncomputable abbrev K93 : Cons := [(118, C118), (125, C125), (157, C157)]
noncomputable abbrev L93 : List (Nat × Loops) := []
abbrev Q93 : List (Nat × List (Int × Nat) × Nat) := []
noncomputable abbrev X93 : Nat → Ctx := ctxOf tb K93 L93 Q93
theorem E93 : ∀ x, funRun fs X93 6 93 C93 x = C93.fn x := fun x => by kernel_rfl
theorem B93 : ConB Try.prog 93 C93 := ConB.make FS MIX TY (cons := K93) (L := L93) (ptrs := Q93) ⟨S118, S125, S157, trivial⟩ trivial trivial rfl rfl E93
theorem S93 : ConS Try.prog 93 C93 := B93.call rfl
/-! impl.PutNum: function 55 -/
noncomputable def f_impl_PutNum.l0 : Nat → Int → (List Int) → Option (Int × List Int)
  | 0, _, _ => none
  | n + 1, p79, p80 =>
    bif (decide ((127 : Int) < p79)) then
      bif (Nat.blt (p80.length + ([(IntKind.wrap .u8 ((IntKind.wrap .i64 ((Int.tmod p79 (128 : Int)) + (128 : Int)))))] : List Int).length) 140737488355328) then
      (some ((p80 ++ ([(IntKind.wrap .u8 ((IntKind.wrap .i64 ((Int.tmod p79 (128 : Int)) + (128 : Int)))))] : List Int)) : List Int)).bind fun z81 =>
      f_impl_PutNum.l0 n (IntKind.wrap .i64 (Int.tdiv p79 (128 : Int))) z81
      else none
    else
      some (p79, p80)
noncomputable def f_impl_PutNum (x0 : Int) : Option (List Int) :=
  (f_impl_from x0 0 100000).bind fun y78 =>
  bif (!y78) then
    some []
  else
    (f_impl_PutNum.l0 N x0 ([] : List Int)).bind fun r82 =>
    bif (Nat.blt (r82.2.length + ([(IntKind.wrap .u8 (r82.1))] : List Int).length) 140737488355328) then
    (some ((r82.2 ++ ([(IntKind.wrap .u8 (r82.1))] : List Int)) : List Int)).bind fun z83 =>
    some z83
    else none
noncomputable def C55 : Con := ⟨[(.B, false, [(.int .i64)])], [(false, [(.sl R1)])], [(.int .i64)], [(.sl R1)], fun (p : Int) => f_impl_PutNum p⟩
noncomputable def f_impl_PutNum.l0.c : LoopCon := ⟨1000, 6, [0, 2, 3], ⟨[(0, .int .i64 0), (2, .nil (some R1)), (3, .ref 1000 [] none)], [(1000, .row R1 [])], 1001⟩, [(.int .i64), (.sl R1)], [⟨.exit 0, [0, 2, 3], ⟨[(0, .int .i64 0), (2, .nil (some R1)), (3, .ref 1000 [] none)], [(1000, .row R1 [])], 1001⟩, [(.int .i64), (.sl R1)]⟩], fun (p : Int × List Int) => f_impl_PutNum.l0 N p.1 p.2⟩
noncomputable abbrev K55 : Cons := [(118, C118)]
noncomputable abbrev L55 : List (Nat × Loops) := [(55, [(4, f_impl_PutNum.l0.c)])]
abbrev Q55 : List (Nat × List (Int × Nat) × Nat) := []
noncomputable abbrev X55 : Nat → Ctx := ctxOf tb K55 L55 Q55
theorem f_impl_PutNum.l0.ok : ∀ n p, (fun (p : Int × List Int) => f_impl_PutNum.l0 n p.1 p.2) p = iterD (roundOf fs X55 6 55 4 false f_impl_PutNum.l0.c) n p :=
  iter_of (l := fun n => fun (p : Int × List Int) => f_impl_PutNum.l0 n p.1 p.2) (fun _ => rfl) (fun n p => by kernel_rfl)
theorem E55 : ∀ x, funRun fs X55 6 55 C55 x = C55.fn x := fun x => by kernel_rfl
theorem B55 : ConB Try.prog 55 C55 := ConB.make FS MIX TY (cons := K55) (L := L55) (ptrs := Q55) ⟨S118, trivial⟩ trivial ⟨⟨⟨N, fun p => f_impl_PutNum.l0.ok N p⟩, trivial⟩, trivial⟩ rfl rfl E55
theorem S55 : ConS Try.prog 55 C55 := B55.call rfl
/-! impl.MsgBytes: function 17 -/
noncomputable def f_impl_MsgBytes.l0 : Nat → Int → Int → (List Int) → (List Int) → Option (List Int)
  | 0, _, _, _, _ => none
  | n + 1, p86, p87, p88, p89 =>
    bif (decide (p87 < p86)) then
      bif ((decide ((0 : Int) ≤ p87)) && (decide (p87 < (p89.length : Int)))) then
      (f_impl_PutNum (p89.getD p87.toNat 0)).bind fun y90 =>
      bif (Nat.blt (p88.length + y90.length) 140737488355328) then
      (some ((p88 ++ y90) : List Int)).bind fun z91 =>
      f_impl_MsgBytes.l0 n p86 (IntKind.wrap .i64 (p87 + (1 : Int))) z91 p89
      else none
      else none
    else
      some p88
noncomputable def f_impl_MsgBytes (x0 : Int) (x1 : Int) (x2 : Bool) (x3 : List Int) : Option (List Int) :=
  (f_impl_MsgOk x0 x1 x2 x3).bind fun y84 =>
  bif (!y84) then
    some []
  else
    bif x2 then
      bif (Nat.blt (([x0, x1, 1] : List Int).length + x3.length) 17592186044416) then
      (some ((([x0, x1, 1] : List Int) ++ x3) : List Int)).bind fun z85 =>
      (f_impl_MsgBytes.l0 N (z85.length : Int) 0 ([] : List Int) z85).bind fun r92 =>
      some r92
      else none
    else
      bif (Nat.blt (([x0, x1, 0] : List Int).length + x3.length) 17592186044416) then
      (some ((([x0, x1, 0] : List Int) ++ x3) : List Int)).bind fun z93 =>
      (f_impl_MsgBytes.l0 N (z93.length : Int) 0 ([] : List Int) z93).bind fun r94 =>
      some r94
      else none
noncomputable def C17 : Con := ⟨[(.B, true, [(.int .i64), (.int .i64), .bool, (.sl R0)])], [(false, [(.sl R1)])], [(.int .i64), (.int .i64), .bool, (.sl R0)], [(.sl R1)], fun (p : Int × Int × Bool × List Int) => f_impl_MsgBytes p.1 p.2.1 p.2.2.1 p.2.2.2⟩
noncomputable def f_impl_MsgBytes.l0.c : LoopCon := ⟨1000, 6, [2, 4, 21, 22, 23], ⟨[(2, .nil (some R1)), (4, .ref 1000 [] none), (21, .ref 1001 [] none), (22, .int .i64 0), (23, .int .i64 0)], [(1000, .row R1 []), (1001, .row R0 [])], 1002⟩, [(.int .i64), (.int .i64), (.sl R1), (.sl R0)], [⟨.exit 0, [2, 4], ⟨[(2, .nil (some R1)), (4, .ref 1000 [] none)], [(1000, .row R1 [])], 1001⟩, [(.sl R1)]⟩], fun (p : Int × Int × List Int × List Int) => f_impl_MsgBytes.l0 N p.1 p.2.1 p.2.2.1 p.2.2.2⟩
noncomputable abbrev K17 : Cons := [(55, C55), (93, C93)]
noncomputable abbrev L17 : List (Nat × Loops) := [(17, [(8, f_impl_MsgBytes.l0.c)])]
abbrev Q17 : List (Nat × List (Int × Nat) × Nat) := []
noncomputable abbrev X17 : Nat → Ctx := ctxOf tb K17 L17 Q17
theorem f_impl_MsgBytes.l0.ok : ∀ n p, (fun (p : Int × Int × List Int × List Int) => f_impl_MsgBytes.l0 n p.1 p.2.1 p.2.2.1 p.2.2.2) p = iterD (roundOf fs X17 6 17 8 false f_impl_MsgBytes.l0.c) n p :=
  iter_of (l := fun n => fun (p : Int × Int × List Int × List Int) => f_impl_MsgBytes.l0 n p.1 p.2.1 p.2.2.1 p.2.2.2) (fun _ => rfl) (fun n p => by kernel_rfl)
theorem E17 : ∀ x, funRun fs X17 6 17 C17 x = C17.fn x := fun x => by kernel_rfl
theorem B17 : ConB Try.prog 17 C17 := ConB.make FS MIX TY (cons := K17) (L := L17) (ptrs := Q17) ⟨S55, S93, trivial⟩ trivial ⟨⟨⟨N, fun p => f_impl_MsgBytes.l0.ok N p⟩, trivial⟩, trivial⟩ rfl rfl E17
theorem S17 : ConS Try.prog 17 C17 := B17.call rfl
/-! laws.eqByteS: function 18 -/
noncomputable def f_laws_eqByteS.l0 : Nat → (List Int) → (List Int) → Bool → Int → Option ((Bool) ⊕ (Bool))
  | 0, _, _, _, _ => none
  | n + 1, p95, p96, p97, p98 =>
    bif (decide (p98 < (p95.length : Int))) then
      bif ((decide ((0 : Int) ≤ p98)) && (decide (p98 < (p95.length : Int)))) then
      bif ((decide ((0 : Int) ≤ p98)) && (decide (p98 < (p96.length : Int)))) then
      bif (!(decide ((p95.getD p98.toNat 0) = (p96.getD p98.toNat 0)))) then
        some (.inl false)
      else
        f_laws_eqByteS.l0 n p95 p96 p97 (IntKind.wrap .i64 (p98 + (1 : Int)))
      else none
      else none
    else
      some (.inr p97)
noncomputable def f_laws_eqByteS (x0 : List Int) (x1 : List Int) : Option (Bool) :=
  bif (!(decide ((x0.length : Int) = (x1.length : Int)))) then
    some false
  else
    (f_laws_eqByteS.l0 N x0 x1 false 0).bind fun r99 =>
    cs r99 (fun a100 =>
      some a100) (fun b101 =>
      some true)
noncomputable def C18 : Con := ⟨[(.B, false, [(.sl R1)]), (.B, false, [(.sl R1)])], [(false, [.bool])], [(.sl R1), (.sl R1)], [.bool], fun (p : List Int × List Int) => f_laws_eqByteS p.1 p.2⟩
noncomputable def f_laws_eqByteS.l0.c : LoopCon := ⟨1000, 6, [0, 1, 4, 5], ⟨[(0, .bor none R1 []), (1, .bor none R1 []), (4, .bool false), (5, .int .i64 0)], [], 1000⟩, [(.sl R1), (.sl R1), .bool, (.int .i64)], [⟨.ret, [4], ⟨[(4, .bool false)], [], 1000⟩, [.bool]⟩, ⟨.exit 0, [4], ⟨[(4, .bool false)], [], 1000⟩, [.bool]⟩], fun (p : List Int × List Int × Bool × Int) => f_laws_eqByteS.l0 N p.1 p.2.1 p.2.2.1 p.2.2.2⟩
noncomputable abbrev K18 : Cons := []
noncomputable abbrev L18 : List (Nat × Loops) := [(18, [(4, f_laws_eqByteS.l0.c)])]
abbrev Q18 : List (Nat × List (Int × Nat) × Nat) := []
noncomputable abbrev X18 : Nat → Ctx := ctxOf tb K18 L18 Q18
theorem f_laws_eqByteS.l0.ok : ∀ n p, (fun (p : List Int × List Int × Bool × Int) => f_laws_eqByteS.l0 n p.1 p.2.1 p.2.2.1 p.2.2.2) p = iterD (roundOf fs X18 6 18 4 false f_laws_eqByteS.l0.c) n p :=
  iter_of (l := fun n => fun (p : List Int × List Int × Bool × Int) => f_laws_eqByteS.l0 n p.1 p.2.1 p.2.2.1 p.2.2.2) (fun _ => rfl) (fun n p => by kernel_rfl)
theorem E18 : ∀ x, funRun fs X18 6 18 C18 x = C18.fn x := fun x => by kernel_rfl
theorem B18 : ConB Try.prog 18 C18 := ConB.make FS MIX TY (cons := K18) (L := L18) (ptrs := Q18) trivial trivial ⟨⟨⟨N, fun p => f_laws_eqByteS.l0.ok N p⟩, trivial⟩, trivial⟩ rfl rfl E18
theorem S18 : ConS Try.prog 18 C18 := B18.call rfl
/-! laws.eqIntS: function 27 -/
noncomputable def f_laws_eqIntS.l0 : Nat → (List Int) → (List Int) → Bool → Int → Option ((Bool) ⊕ (Bool))
  | 0, _, _, _, _ => none
  | n + 1, p102, p103, p104, p105 =>
    bif (decide (p105 < (p102.length : Int))) then
      bif ((decide ((0 : Int) ≤ p105)) && (decide (p105 < (p102.length : Int)))) then
      bif ((decide ((0 : Int) ≤ p105)) && (decide (p105 < (p103.length : Int)))) then
      bif (!(decide ((p102.getD p105.toNat 0) = (p103.getD p105.toNat 0)))) then
        some (.inl false)
      else
        f_laws_eqIntS.l0 n p102 p103 p104 (IntKind.wrap .i64 (p105 + (1 : Int)))
      else none
      else none
    else
      some (.inr p104)
noncomputable def f_laws_eqIntS (x0 : List Int) (x1 : List Int) : Option (Bool) :=
  bif (!(decide ((x0.length : Int) = (x1.length : Int)))) then
    some false
  else
    (f_laws_eqIntS.l0 N x0 x1 false 0).bind fun r106 =>
    cs r106 (fun a107 =>
      some a107) (fun b108 =>
      some true)
noncomputable def C27 : Con := ⟨[(.B, false, [(.sl R0)]), (.B, false, [(.sl R0)])], [(false, [.bool])], [(.sl R0), (.sl R0)], [.bool], fun (p : List Int × List Int) => f_laws_eqIntS p.1 p.2⟩
noncomputable def f_laws_eqIntS.l0.c : LoopCon := ⟨1000, 6, [0, 1, 4, 5], ⟨[(0, .bor none R0 []), (1, .bor none R0 []), (4, .bool false), (5, .int .i64 0)], [], 1000⟩, [(.sl R0), (.sl R0), .bool, (.int .i64)], [⟨.ret, [4], ⟨[(4, .bool false)], [], 1000⟩, [.bool]⟩, ⟨.exit 0, [4], ⟨[(4, .bool false)], [], 1000⟩, [.bool]⟩], fun (p : List Int × List Int × Bool × Int) => f_laws_eqIntS.l0 N p.1 p.2.1 p.2.2.1 p.2.2.2⟩
noncomputable abbrev K27 : Cons := []
noncomputable abbrev L27 : List (Nat × Loops) := [(27, [(4, f_laws_eqIntS.l0.c)])]
abbrev Q27 : List (Nat × List (Int × Nat) × Nat) := []
noncomputable abbrev X27 : Nat → Ctx := ctxOf tb K27 L27 Q27
theorem f_laws_eqIntS.l0.ok : ∀ n p, (fun (p : List Int × List Int × Bool × Int) => f_laws_eqIntS.l0 n p.1 p.2.1 p.2.2.1 p.2.2.2) p = iterD (roundOf fs X27 6 27 4 false f_laws_eqIntS.l0.c) n p :=
  iter_of (l := fun n => fun (p : List Int × List Int × Bool × Int) => f_laws_eqIntS.l0 n p.1 p.2.1 p.2.2.1 p.2.2.2) (fun _ => rfl) (fun n p => by kernel_rfl)
theorem E27 : ∀ x, funRun fs X27 6 27 C27 x = C27.fn x := fun x => by kernel_rfl
theorem B27 : ConB Try.prog 27 C27 := ConB.make FS MIX TY (cons := K27) (L := L27) (ptrs := Q27) trivial trivial ⟨⟨⟨N, fun p => f_laws_eqIntS.l0.ok N p⟩, trivial⟩, trivial⟩ rfl rfl E27
theorem S27 : ConS Try.prog 27 C27 := B27.call rfl
/-! laws.eqMsg: function 19 -/
noncomputable def f_laws_eqMsg (x0 : Int) (x1 : Int) (x2 : Bool) (x3 : List Int) (x4 : Int) (x5 : Int) (x6 : Bool) (x7 : List Int) : Option (Bool) :=
  bif (!(decide (x0 = x4))) then
    some false
  else
    bif (!(decide (x1 = x5))) then
      some false
    else
      bif (!(x2 == x6)) then
        some false
      else
        (f_laws_eqIntS x3 x7).bind fun y109 =>
        bif (!y109) then
          some false
        else
          some true
noncomputable def C19 : Con := ⟨[(.B, true, [(.int .i64), (.int .i64), .bool, (.sl R0)]), (.B, true, [(.int .i64), (.int .i64), .bool, (.sl R0)])], [(false, [.bool])], [(.int .i64), (.int .i64), .bool, (.sl R0), (.int .i64), (.int .i64), .bool, (.sl R0)], [.bool], fun (p : Int × Int × Bool × List Int × Int × Int × Bool × List Int) => f_laws_eqMsg p.1 p.2.1 p.2.2.1 p.2.2.2.1 p.2.2.2.2.1 p.2.2.2.2.2.1 p.2.2.2.2.2.2.1 p.2.2.2.2.2.2.2⟩
noncomputable abbrev K19 : Cons := [(27, C27)]
noncomputable abbrev L19 : List (Nat × Loops) := []
abbrev Q19 : List (Nat × List (Int × Nat) × Nat) := []
noncomputable abbrev X19 : Nat → Ctx := ctxOf tb K19 L19 Q19
theorem E19 : ∀ x, funRun fs X19 6 19 C19 x = C19.fn x := fun x => by kernel_rfl
theorem B19 : ConB Try.prog 19 C19 := ConB.make FS MIX TY (cons := K19) (L := L19) (ptrs := Q19) ⟨S27, trivial⟩ trivial trivial rfl rfl E19
theorem S19 : ConS Try.prog 19 C19 := B19.call rfl
/-! laws.markIntS: function 28 -/
noncomputable def f_laws_markIntS.l0 : Nat → Int → Int → Int → (List Int) → Option (Int × Int × List Int)
  | 0, _, _, _, _ => none
  | n + 1, p110, p111, p112, p113 =>
    bif (decide (p112 < (p113.length : Int))) then
      bif ((decide ((0 : Int) ≤ p112)) && (decide (p112 < (p113.length : Int)))) then
      (some ((p113.set p112.toNat p110) : List Int)).bind fun z114 =>
      f_laws_markIntS.l0 n (IntKind.wrap .i64 (p110 + (1 : Int))) p111 (IntKind.wrap .i64 (p112 + (1 : Int))) z114
      else none
    else
      some (p110, p111, p113)
noncomputable def f_laws_markIntS (x0 : List Int) (x1 : Int) : Option (Int × List Int) :=
  (f_laws_markIntS.l0 N x1 0 0 x0).bind fun r115 =>
  some (r115.1, r115.2.2)
noncomputable def C28 : Con := ⟨[(.I, false, [(.sl R0)]), (.B, false, [(.int .i64)])], [(false, [(.int .i64)])], [(.sl R0), (.int .i64)], [(.int .i64), (.sl R0)], fun (p : List Int × Int) => f_laws_markIntS p.1 p.2⟩
noncomputable def f_laws_markIntS.l0.c : LoopCon := ⟨1000, 6, [0, 1, 4, 5], ⟨[(0, .ref 0 [] none), (1, .int .i64 0), (4, .int .i64 0), (5, .int .i64 0)], [(0, .row R0 [])], 1000⟩, [(.int .i64), (.int .i64), (.int .i64), (.sl R0)], [⟨.exit 0, [1, 4], ⟨[(1, .int .i64 0), (4, .int .i64 0)], [(0, .row R0 [])], 1000⟩, [(.int .i64), (.int .i64), (.sl R0)]⟩], fun (p : Int × Int × Int × List Int) => f_laws_markIntS.l0 N p.1 p.2.1 p.2.2.1 p.2.2.2⟩
noncomputable abbrev K28 : Cons := []
noncomputable abbrev L28 : List (Nat × Loops) := [(28, [(2, f_laws_markIntS.l0.c)])]
abbrev Q28 : List (Nat × List (Int × Nat) × Nat) := []
noncomputable abbrev X28 : Nat → Ctx := ctxOf tb K28 L28 Q28
theorem f_laws_markIntS.l0.ok : ∀ n p, (fun (p : Int × Int × Int × List Int) => f_laws_markIntS.l0 n p.1 p.2.1 p.2.2.1 p.2.2.2) p = iterD (roundOf fs X28 6 28 2 false f_laws_markIntS.l0.c) n p :=
  iter_of (l := fun n => fun (p : Int × Int × Int × List Int) => f_laws_markIntS.l0 n p.1 p.2.1 p.2.2.1 p.2.2.2) (fun _ => rfl) (fun n p => by kernel_rfl)
theorem E28 : ∀ x, funG fs X28 6 28 C28 x = C28.fn x := fun x => by kernel_rfl
theorem B28 : ConG Try.prog 28 C28 := ConG.make FS MIX TY (cons := K28) (L := L28) (ptrs := Q28) trivial trivial ⟨⟨⟨N, fun p => f_laws_markIntS.l0.ok N p⟩, trivial⟩, trivial⟩ rfl (by kernel_rfl) E28
theorem S28 : ConS Try.prog 28 C28 := B28.call (by kernel_rfl)
/-! laws.markMsg: function 20 -/
noncomputable def f_laws_markMsg (x0 : Int) (x1 : Int) (x2 : Bool) (x3 : List Int) (x4 : Int) : Option (Int × List Int) :=
  (f_laws_markIntS x3 x4).bind fun y116 =>
  (some (y116.2 : List Int)).bind fun z117 =>
  some (y116.1, z117)
noncomputable def C20 : Con := ⟨[(.I, true, [(.int .i64), (.int .i64), .bool, (.sl R0)]), (.B, false, [(.int .i64)])], [(false, [(.int .i64)])], [(.int .i64), (.int .i64), .bool, (.sl R0), (.int .i64)], [(.int .i64), (.sl R0)], fun (p : Int × Int × Bool × List Int × Int) => f_laws_markMsg p.1 p.2.1 p.2.2.1 p.2.2.2.1 p.2.2.2.2⟩
noncomputable abbrev K20 : Cons := [(28, C28)]
noncomputable abbrev L20 : List (Nat × Loops) := []
abbrev Q20 : List (Nat × List (Int × Nat) × Nat) := []
noncomputable abbrev X20 : Nat → Ctx := ctxOf tb K20 L20 Q20
theorem E20 : ∀ x, funG fs X20 6 20 C20 x = C20.fn x := fun x => by kernel_rfl
theorem B20 : ConG Try.prog 20 C20 := ConG.make FS MIX TY (cons := K20) (L := L20) (ptrs := Q20) ⟨S28, trivial⟩ trivial trivial rfl (by kernel_rfl) E20
theorem S20 : ConS Try.prog 20 C20 := B20.call (by kernel_rfl)
/-! laws.markByteS: function 21 -/
noncomputable def f_laws_markByteS.l0 : Nat → Int → Int → Int → (List Int) → Option (Int × Int × List Int)
  | 0, _, _, _, _ => none
  | n + 1, p118, p119, p120, p121 =>
    bif (decide (p120 < (p121.length : Int))) then
      bif ((decide ((0 : Int) ≤ p120)) && (decide (p120 < (p121.length : Int)))) then
      (some ((p121.set p120.toNat (IntKind.wrap .u8 (p118))) : List Int)).bind fun z122 =>
      f_laws_markByteS.l0 n (IntKind.wrap .i64 (p118 + (1 : Int))) p119 (IntKind.wrap .i64 (p120 + (1 : Int))) z122
      else none
    else
      some (p118, p119, p121)
noncomputable def f_laws_markByteS (x0 : List Int) (x1 : Int) : Option (Int × List Int) :=
  (f_laws_markByteS.l0 N x1 0 0 x0).bind fun r123 =>
  some (r123.1, r123.2.2)
noncomputable def C21 : Con := ⟨[(.I, false, [(.sl R1)]), (.B, false, [(.int .i64)])], [(false, [(.int .i64)])], [(.sl R1), (.int .i64)], [(.int .i64), (.sl R1)], fun (p : List Int × Int) => f_laws_markByteS p.1 p.2⟩
noncomputable def f_laws_markByteS.l0.c : LoopCon := ⟨1000, 6, [0, 1, 4, 5], ⟨[(0, .ref 0 [] none), (1, .int .i64 0), (4, .int .i64 0), (5, .int .i64 0)], [(0, .row R1 [])], 1000⟩, [(.int .i64), (.int .i64), (.int .i64), (.sl R1)], [⟨.exit 0, [1, 4], ⟨[(1, .int .i64 0), (4, .int .i64 0)], [(0, .row R1 [])], 1000⟩, [(.int .i64), (.int .i64), (.sl R1)]⟩], fun (p : Int × Int × Int × List Int) => f_laws_markByteS.l0 N p.1 p.2.1 p.2.2.1 p.2.2.2⟩
noncomputable abbrev K21 : Cons := []
noncomputable abbrev L21 : List (Nat × Loops) := [(21, [(2, f_laws_markByteS.l0.c)])]
abbrev Q21 : List (Nat × List (Int × Nat) × Nat) := []
noncomputable abbrev X21 : Nat → Ctx := ctxOf tb K21 L21 Q21
theorem f_laws_markByteS.l0.ok : ∀ n p, (fun (p : Int × Int × Int × List Int) => f_laws_markByteS.l0 n p.1 p.2.1 p.2.2.1 p.2.2.2) p = iterD (roundOf fs X21 6 21 2 false f_laws_markByteS.l0.c) n p :=
  iter_of (l := fun n => fun (p : Int × Int × Int × List Int) => f_laws_markByteS.l0 n p.1 p.2.1 p.2.2.1 p.2.2.2) (fun _ => rfl) (fun n p => by kernel_rfl)
theorem E21 : ∀ x, funG fs X21 6 21 C21 x = C21.fn x := fun x => by kernel_rfl
theorem B21 : ConG Try.prog 21 C21 := ConG.make FS MIX TY (cons := K21) (L := L21) (ptrs := Q21) trivial trivial ⟨⟨⟨N, fun p => f_laws_markByteS.l0.ok N p⟩, trivial⟩, trivial⟩ rfl (by kernel_rfl) E21
theorem S21 : ConS Try.prog 21 C21 := B21.call (by kernel_rfl)
/-! laws.heldByteS: function 22 -/
noncomputable def f_laws_heldByteS.l0 : Nat → (List Int) → Int → Int → Int → Option ((Int) ⊕ (Int × Int))
  | 0, _, _, _, _ => none
  | n + 1, p124, p125, p126, p127 =>
    bif (decide (p127 < (p124.length : Int))) then
      bif ((decide ((0 : Int) ≤ p127)) && (decide (p127 < (p124.length : Int)))) then
      bif (!(decide ((p124.getD p127.toNat 0) = (IntKind.wrap .u8 (p125))))) then
        some (.inl (-1))
      else
        f_laws_heldByteS.l0 n p124 (IntKind.wrap .i64 (p125 + (1 : Int))) p126 (IntKind.wrap .i64 (p127 + (1 : Int)))
      else none
    else
      some (.inr (p125, p126))
noncomputable def f_laws_heldByteS (x0 : List Int) (x1 : Int) : Option (Int) :=
  (f_laws_heldByteS.l0 N x0 x1 0 0).bind fun r128 =>
  cs r128 (fun a129 =>
    some a129) (fun b130 =>
    some b130.1)
noncomputable def C22 : Con := ⟨[(.B, false, [(.sl R1)]), (.B, false, [(.int .i64)])], [(false, [(.int .i64)])], [(.sl R1), (.int .i64)], [(.int .i64)], fun (p : List Int × Int) => f_laws_heldByteS p.1 p.2⟩
noncomputable def f_laws_heldByteS.l0.c : LoopCon := ⟨1000, 6, [0, 1, 4, 5], ⟨[(0, .bor none R1 []), (1, .int .i64 0), (4, .int .i64 0), (5, .int .i64 0)], [], 1000⟩, [(.sl R1), (.int .i64), (.int .i64), (.int .i64)], [⟨.ret, [4], ⟨[(4, .int .i64 0)], [], 1000⟩, [(.int .i64)]⟩, ⟨.exit 0, [1, 4], ⟨[(1, .int .i64 0), (4, .int .i64 0)], [], 1000⟩, [(.int .i64), (.int .i64)]⟩], fun (p : List Int × Int × Int × Int) => f_laws_heldByteS.l0 N p.1 p.2.1 p.2.2.1 p.2.2.2⟩
noncomputable abbrev K22 : Cons := []
noncomputable abbrev L22 : List (Nat × Loops) := [(22, [(2, f_laws_heldByteS.l0.c)])]
abbrev Q22 : List (Nat × List (Int × Nat) × Nat) := []
noncomputable abbrev X22 : Nat → Ctx := ctxOf tb K22 L22 Q22
theorem f_laws_heldByteS.l0.ok : ∀ n p, (fun (p : List Int × Int × Int × Int) => f_laws_heldByteS.l0 n p.1 p.2.1 p.2.2.1 p.2.2.2) p = iterD (roundOf fs X22 6 22 2 false f_laws_heldByteS.l0.c) n p :=
  iter_of (l := fun n => fun (p : List Int × Int × Int × Int) => f_laws_heldByteS.l0 n p.1 p.2.1 p.2.2.1 p.2.2.2) (fun _ => rfl) (fun n p => by kernel_rfl)
theorem E22 : ∀ x, funRun fs X22 6 22 C22 x = C22.fn x := fun x => by kernel_rfl
theorem B22 : ConB Try.prog 22 C22 := ConB.make FS MIX TY (cons := K22) (L := L22) (ptrs := Q22) trivial trivial ⟨⟨⟨N, fun p => f_laws_heldByteS.l0.ok N p⟩, trivial⟩, trivial⟩ rfl rfl E22
theorem S22 : ConS Try.prog 22 C22 := B22.call rfl
/-! laws.FnExactMsgBytes: function 3 -/
noncomputable def f_laws_FnExactMsgBytes (x0 : Int) (x1 : Int) (x2 : Bool) (x3 : List Int) : Option (Bool) :=
  (f_laws_szMsg x0 x1 x2 x3 1048576).bind fun y131 =>
  bif (decide (y131 < (0 : Int))) then
    some true
  else
    (f_laws_toMsg x0 x1 x2 x3).bind fun y132 =>
    (f_spec_MsgBytes y132.1 y132.2.1 y132.2.2.1 y132.2.2.2).bind fun y133 =>
    (f_laws_toMsg x0 x1 x2 x3).bind fun y134 =>
    (f_impl_MsgBytes y134.1 y134.2.1 y134.2.2.1 y134.2.2.2).bind fun y135 =>
    (f_laws_eqByteS y135 y133).bind fun y136 =>
    bif (!y136) then
      some false
    else
      (f_laws_toMsg x0 x1 x2 x3).bind fun y137 =>
      (f_laws_eqMsg y134.1 y134.2.1 y134.2.2.1 y134.2.2.2 y137.1 y137.2.1 y137.2.2.1 y137.2.2.2).bind fun y138 =>
      bif (!y138) then
        some false
      else
        (f_laws_markMsg y134.1 y134.2.1 y134.2.2.1 y134.2.2.2 1).bind fun y139 =>
        (some (y139.2 : List Int)).bind fun z140 =>
        bif (decide (y139.1 < (0 : Int))) then
          some false
        else
          (f_laws_eqByteS y135 y133).bind fun y141 =>
          bif (!y141) then
            some false
          else
            (f_laws_markByteS y135 1).bind fun y142 =>
            (some (y142.2 : List Int)).bind fun z143 =>
            (f_laws_heldByteS z143 1).bind fun y144 =>
            bif (decide (y144 < (0 : Int))) then
              some false
            else
              bif (!(decide (y144 = y142.1))) then
                some false
              else
                (f_laws_toMsg x0 x1 x2 x3).bind fun y145 =>
                (f_impl_MsgBytes y145.1 y145.2.1 y145.2.2.1 y145.2.2.2).bind fun y146 =>
                (f_laws_eqByteS y146 y133).bind fun y147 =>
                bif (!y147) then
                  some false
                else
                  (f_laws_heldByteS z143 1).bind fun y148 =>
                  bif (decide (y148 < (0 : Int))) then
                    some false
                  else
                    bif (!(decide (y148 = y142.1))) then
                      some false
                    else
                      some true
noncomputable def C3 : Con := ⟨[(.B, true, [(.int .i64), (.int .i64), .bool, (.sl R0)])], [(false, [.bool])], [(.int .i64), (.int .i64), .bool, (.sl R0)], [.bool], fun (p : Int × Int × Bool × List Int) => f_laws_FnExactMsgBytes p.1 p.2.1 p.2.2.1 p.2.2.2⟩
noncomputable abbrev K3 : Cons := [(14, C14), (15, C15), (16, C16), (17, C17), (18, C18), (19, C19), (20, C20), (21, C21), (22, C22)]
noncomputable abbrev L3 : List (Nat × Loops) := []
abbrev Q3 : List (Nat × List (Int × Nat) × Nat) := []
noncomputable abbrev X3 : Nat → Ctx := ctxOf tb K3 L3 Q3
theorem E3 : ∀ x, funRun fs X3 6 3 C3 x = C3.fn x := fun x => by kernel_rfl
theorem B3 : ConB Try.prog 3 C3 := ConB.make FS MIX TY (cons := K3) (L := L3) (ptrs := Q3) ⟨S14, S15, S16, S17, S18, S19, S20, S21, S22, trivial⟩ trivial trivial rfl rfl E3
theorem S3 : ConS Try.prog 3 C3 := B3.call rfl
/-- What is left: the plain law. -/
def Pure : Prop := ∀ x : Tup [(.int .i64), (.int .i64), .bool, (.sl R0)], WfT [(.int .i64), (.int .i64), .bool, (.sl R0)] x → C3.fn x = some (true : Bool)
end
end Go.Abs
