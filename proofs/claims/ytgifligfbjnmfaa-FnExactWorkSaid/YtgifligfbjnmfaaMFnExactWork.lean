import Derived.Test.YtgifligfbjnmfaaProg
import Derived.Test.YtgifligfbjnmfaaAbsD
import Derived.KernelRfl
namespace Go.Abs
open Go.Proofs
set_option linter.unusedVariables false
set_option maxRecDepth 100000
noncomputable section
abbrev N : Nat := 1152921504606846976
abbrev R0 : RT := .one (.int .i64)
noncomputable def tb : Tb := [(0, ⟨false, [], [], 0, 0⟩),
  (3, ⟨false, [(.int .i64)], [], 0, 8⟩),
  (4, ⟨false, [.bool], [], 0, 1⟩),
  (5, ⟨false, [(.int .u8)], [], 0, 1⟩),
  (9, ⟨false, [.str], [], 0, 16⟩),
  (22, ⟨false, [(.sl R0)], [], 3, 24⟩),
  (60, ⟨true, [(.sl R0), (.int .i64), (.int .i64)], [(0, 22), (1, 3), (2, 3)], 0, 40⟩),
  (62, ⟨true, [(.int .i64), (.int .i64), (.int .i64), (.int .i64), (.int .i64)], [(0, 3), (1, 3), (2, 3), (3, 3), (4, 3)], 0, 40⟩),
  (64, ⟨true, [(.sl R0), (.int .i64), (.int .i64)], [(0, 22), (1, 3), (2, 3)], 0, 40⟩),
  (65, ⟨false, [], [], 0, 0⟩),
  (68, ⟨true, [(.int .i64), (.int .i64), (.int .i64), (.int .i64), (.int .i64)], [(0, 3), (1, 3), (2, 3), (3, 3), (4, 3)], 0, 40⟩),
  (119, ⟨false, [], [], 0, 8⟩),
  (135, ⟨false, [], [], 0, 0⟩),
  (137, ⟨false, [], [], 0, 8⟩),
  (179, ⟨false, [], [], 0, 8⟩)]
noncomputable def fsL : List (Nat × Func) := [(90, Try.f90), (42, Try.f42), (24, Try.f24), (44, Try.f44), (45, Try.f45), (103, Try.f103), (94, Try.f94), (112, Try.f112), (104, Try.f104), (105, Try.f105), (129, Try.f129), (130, Try.f130), (82, Try.f82), (106, Try.f106), (43, Try.f43), (101, Try.f101), (107, Try.f107), (118, Try.f118), (109, Try.f109), (163, Try.f163), (181, Try.f181), (162, Try.f162), (125, Try.f125), (95, Try.f95), (108, Try.f108), (126, Try.f126), (127, Try.f127), (76, Try.f76), (110, Try.f110), (111, Try.f111), (46, Try.f46), (27, Try.f27), (47, Try.f47), (28, Try.f28), (48, Try.f48), (52, Try.f52), (49, Try.f49), (7, Try.f7)]
noncomputable def fs : Nat → Option Func := getF fsL
theorem MIX : Try.prog.follows .mixedOrders = true := by kernel_rfl
theorem TY : tyCheck Try.prog tb = true := by kernel_rfl
theorem CAT : catCheck tb = true := by kernel_rfl
theorem FSP : FsP Try.prog fsL := ⟨Try.func90, Try.func42, Try.func24, Try.func44, Try.func45, Try.func103, Try.func94, Try.func112, Try.func104, Try.func105, Try.func129, Try.func130, Try.func82, Try.func106, Try.func43, Try.func101, Try.func107, Try.func118, Try.func109, Try.func163, Try.func181, Try.func162, Try.func125, Try.func95, Try.func108, Try.func126, Try.func127, Try.func76, Try.func110, Try.func111, Try.func46, Try.func27, Try.func47, Try.func28, Try.func48, Try.func52, Try.func49, Try.func7, trivial⟩
theorem FSC : (fsL.all fun p => fnChk p.2) = true := by kernel_rfl
theorem FS : FsS Try.prog fs := FsS.of FSP FSC
theorem PT127 : PtrS Try.prog 127 [(82, 1), (65, 2), (66, 3)] 4 := PtrS.make FS MIX TY (cons := []) (L := []) (ptrs := []) trivial trivial trivial rfl (fun l => by kernel_rfl)
/-! laws.szIntS: function 90 -/
noncomputable def f_laws_szIntS (x0 : List Int) (x1 : Int) : Option (Int) :=
  bif (decide ((IntKind.wrap .i64 (x1 - (x0.length : Int))) < (0 : Int))) then
    some (-1)
  else
    some (IntKind.wrap .i64 (x1 - (x0.length : Int)))
noncomputable def C90 : Con := ⟨[(.B, false, [(.sl R0)]), (.B, false, [(.int .i64)])], [(false, [(.int .i64)])], [(.sl R0), (.int .i64)], [(.int .i64)], fun (p : List Int × Int) => f_laws_szIntS p.1 p.2⟩
noncomputable abbrev K90 : Cons := []
noncomputable abbrev L90 : List (Nat × Loops) := []
abbrev Q90 : List (Nat × List (Int × Nat) × Nat) := []
noncomputable abbrev X90 : Nat → Ctx := ctxOf tb K90 L90 Q90
theorem E90 : ∀ x, funRun fs X90 6 90 C90 x = C90.fn x := fun x => by kernel_rfl
theorem B90 : ConB Try.prog 90 C90 := ConB.make FS MIX TY (cons := K90) (L := L90) (ptrs := Q90) trivial trivial trivial rfl rfl E90
theorem S90 : ConS Try.prog 90 C90 := B90.call rfl
/-! laws.szHart: function 42 -/
noncomputable def f_laws_szHart (x0 : List Int) (x1 : Int) (x2 : Int) (x3 : Int) : Option (Int) :=
  (f_laws_szIntS x0 x3).bind fun y1 =>
  bif (decide (y1 < (0 : Int))) then
    some (-1)
  else
    some y1
noncomputable def C42 : Con := ⟨[(.B, true, [(.sl R0), (.int .i64), (.int .i64)]), (.B, false, [(.int .i64)])], [(false, [(.int .i64)])], [(.sl R0), (.int .i64), (.int .i64), (.int .i64)], [(.int .i64)], fun (p : List Int × Int × Int × Int) => f_laws_szHart p.1 p.2.1 p.2.2.1 p.2.2.2⟩
noncomputable abbrev K42 : Cons := [(90, C90)]
noncomputable abbrev L42 : List (Nat × Loops) := []
abbrev Q42 : List (Nat × List (Int × Nat) × Nat) := []
noncomputable abbrev X42 : Nat → Ctx := ctxOf tb K42 L42 Q42
theorem E42 : ∀ x, funRun fs X42 6 42 C42 x = C42.fn x := fun x => by kernel_rfl
theorem B42 : ConB Try.prog 42 C42 := ConB.make FS MIX TY (cons := K42) (L := L42) (ptrs := Q42) ⟨S90, trivial⟩ trivial trivial rfl rfl E42
theorem S42 : ConS Try.prog 42 C42 := B42.call rfl
/-! laws.toIntS: function 24 -/
noncomputable def f_laws_toIntS.l0 : Nat → (List Int) → Int → (List Int) → Option (List Int)
  | 0, _, _, _ => none
  | n + 1, p2, p3, p4 =>
    bif (decide (p3 < (p2.length : Int))) then
      bif ((decide ((0 : Int) ≤ p3)) && (decide (p3 < (p2.length : Int)))) then
      bif ((decide ((0 : Int) ≤ p3)) && (decide (p3 < (p4.length : Int)))) then
      (some ((p4.set p3.toNat (p2.getD p3.toNat 0)) : List Int)).bind fun z5 =>
      f_laws_toIntS.l0 n p2 (IntKind.wrap .i64 (p3 + (1 : Int))) z5
      else none
      else none
    else
      some p4
noncomputable def f_laws_toIntS (x0 : List Int) : Option (List Int) :=
  bif (decide ((0 : Int) ≤ (x0.length : Int)) && Nat.ble (x0.length : Int).toNat 17592186044416) then
  (f_laws_toIntS.l0 N x0 0 (List.replicate (x0.length : Int).toNat 0)).bind fun r6 =>
  some r6
  else none
noncomputable def C24 : Con := ⟨[(.B, false, [(.sl R0)])], [(false, [(.sl R0)])], [(.sl R0)], [(.sl R0)], fun (p : List Int) => f_laws_toIntS p⟩
noncomputable def f_laws_toIntS.l0.c : LoopCon := ⟨1000, 6, [0, 2, 3, 4], ⟨[(0, .bor none R0 []), (2, .nil (some R0)), (3, .ref 1000 [] none), (4, .int .i64 0)], [(1000, .row R0 [])], 1001⟩, [(.sl R0), (.int .i64), (.sl R0)], [⟨.exit 0, [2, 3], ⟨[(2, .nil (some R0)), (3, .ref 1000 [] none)], [(1000, .row R0 [])], 1001⟩, [(.sl R0)]⟩], fun (p : List Int × Int × List Int) => f_laws_toIntS.l0 N p.1 p.2.1 p.2.2⟩
noncomputable abbrev K24 : Cons := []
noncomputable abbrev L24 : List (Nat × Loops) := [(24, [(3, f_laws_toIntS.l0.c)])]
abbrev Q24 : List (Nat × List (Int × Nat) × Nat) := []
noncomputable abbrev X24 : Nat → Ctx := ctxOf tb K24 L24 Q24
theorem f_laws_toIntS.l0.ok : ∀ n p, (fun (p : List Int × Int × List Int) => f_laws_toIntS.l0 n p.1 p.2.1 p.2.2) p = iterD (roundOf fs X24 6 24 3 false f_laws_toIntS.l0.c) n p :=
  iter_of (l := fun n => fun (p : List Int × Int × List Int) => f_laws_toIntS.l0 n p.1 p.2.1 p.2.2) (fun _ => rfl) (fun n p => by kernel_rfl)
theorem E24 : ∀ x, funRun fs X24 6 24 C24 x = C24.fn x := fun x => by kernel_rfl
theorem B24 : ConB Try.prog 24 C24 := ConB.make FS MIX TY (cons := K24) (L := L24) (ptrs := Q24) trivial trivial ⟨⟨⟨N, fun p => f_laws_toIntS.l0.ok N p⟩, trivial⟩, trivial⟩ rfl rfl E24
theorem S24 : ConS Try.prog 24 C24 := B24.call rfl
/-! laws.toHart: function 44 -/
noncomputable def f_laws_toHart (x0 : List Int) (x1 : Int) (x2 : Int) : Option (List Int × Int × Int) :=
  (f_laws_toIntS x0).bind fun y7 =>
  some (y7, x1, x2)
noncomputable def C44 : Con := ⟨[(.B, true, [(.sl R0), (.int .i64), (.int .i64)])], [(true, [(.sl R0), (.int .i64), (.int .i64)])], [(.sl R0), (.int .i64), (.int .i64)], [(.sl R0), (.int .i64), (.int .i64)], fun (p : List Int × Int × Int) => f_laws_toHart p.1 p.2.1 p.2.2⟩
noncomputable abbrev K44 : Cons := [(24, C24)]
noncomputable abbrev L44 : List (Nat × Loops) := []
abbrev Q44 : List (Nat × List (Int × Nat) × Nat) := []
noncomputable abbrev X44 : Nat → Ctx := ctxOf tb K44 L44 Q44
theorem E44 : ∀ x, funRun fs X44 6 44 C44 x = C44.fn x := fun x => by kernel_rfl
theorem B44 : ConB Try.prog 44 C44 := ConB.make FS MIX TY (cons := K44) (L := L44) (ptrs := Q44) ⟨S24, trivial⟩ trivial trivial rfl rfl E44
theorem S44 : ConS Try.prog 44 C44 := B44.call rfl
/-! laws.toIns: function 45 -/
noncomputable def f_laws_toIns (x0 : Int) (x1 : Int) (x2 : Int) (x3 : Int) (x4 : Int) : Option (Int × Int × Int × Int × Int) :=
  some (x0, x1, x2, x3, x4)
noncomputable def C45 : Con := ⟨[(.B, true, [(.int .i64), (.int .i64), (.int .i64), (.int .i64), (.int .i64)])], [(true, [(.int .i64), (.int .i64), (.int .i64), (.int .i64), (.int .i64)])], [(.int .i64), (.int .i64), (.int .i64), (.int .i64), (.int .i64)], [(.int .i64), (.int .i64), (.int .i64), (.int .i64), (.int .i64)], fun (p : Int × Int × Int × Int × Int) => f_laws_toIns p.1 p.2.1 p.2.2.1 p.2.2.2.1 p.2.2.2.2⟩
noncomputable abbrev K45 : Cons := []
noncomputable abbrev L45 : List (Nat × Loops) := []
abbrev Q45 : List (Nat × List (Int × Nat) × Nat) := []
noncomputable abbrev X45 : Nat → Ctx := ctxOf tb K45 L45 Q45
theorem E45 : ∀ x, funRun fs X45 6 45 C45 x = C45.fn x := fun x => by kernel_rfl
theorem B45 : ConB Try.prog 45 C45 := ConB.make FS MIX TY (cons := K45) (L := L45) (ptrs := Q45) trivial trivial trivial rfl rfl E45
theorem S45 : ConS Try.prog 45 C45 := B45.call rfl
/-! spec.l9Copy: function 103 -/
noncomputable def f_spec_l9Copy (x0 : List Int) (x1 : Int) (x2 : Int) : Option (List Int × Int × Int) :=
  bif (Nat.blt (([] : List Int).length + x0.length) 17592186044416) then
  (some ((([] : List Int) ++ x0) : List Int)).bind fun z8 =>
  some (z8, x1, x2)
  else none
noncomputable def C103 : Con := ⟨[(.B, true, [(.sl R0), (.int .i64), (.int .i64)])], [(true, [(.sl R0), (.int .i64), (.int .i64)])], [(.sl R0), (.int .i64), (.int .i64)], [(.sl R0), (.int .i64), (.int .i64)], fun (p : List Int × Int × Int) => f_spec_l9Copy p.1 p.2.1 p.2.2⟩
noncomputable abbrev K103 : Cons := []
noncomputable abbrev L103 : List (Nat × Loops) := []
abbrev Q103 : List (Nat × List (Int × Nat) × Nat) := []
noncomputable abbrev X103 : Nat → Ctx := ctxOf tb K103 L103 Q103
theorem E103 : ∀ x, funRun fs X103 6 103 C103 x = C103.fn x := fun x => by kernel_rfl
theorem B103 : ConB Try.prog 103 C103 := ConB.make FS MIX TY (cons := K103) (L := L103) (ptrs := Q103) trivial trivial trivial rfl rfl E103
theorem S103 : ConS Try.prog 103 C103 := B103.call rfl
/-! spec.l1In: function 94 -/
noncomputable def f_spec_l1In (x0 : Int) (x1 : Int) (x2 : Int) : Option (Bool) :=
  bif (decide (x1 ≤ x0)) then
    some (decide (x0 ≤ x2))
  else
    some false
noncomputable def C94 : Con := ⟨[(.B, false, [(.int .i64)]), (.B, false, [(.int .i64)]), (.B, false, [(.int .i64)])], [(false, [.bool])], [(.int .i64), (.int .i64), (.int .i64)], [.bool], fun (p : Int × Int × Int) => f_spec_l1In p.1 p.2.1 p.2.2⟩
noncomputable abbrev K94 : Cons := []
noncomputable abbrev L94 : List (Nat × Loops) := []
abbrev Q94 : List (Nat × List (Int × Nat) × Nat) := []
noncomputable abbrev X94 : Nat → Ctx := ctxOf tb K94 L94 Q94
theorem E94 : ∀ x, funRun fs X94 6 94 C94 x = C94.fn x := fun x => by kernel_rfl
theorem B94 : ConB Try.prog 94 C94 := ConB.make FS MIX TY (cons := K94) (L := L94) (ptrs := Q94) trivial trivial trivial rfl rfl E94
theorem S94 : ConS Try.prog 94 C94 := B94.call rfl
/-! spec.l1Words: function 112 -/
noncomputable def f_spec_l1Words.l0 : Nat → (List Int) → Int → Bool → Int → Option ((Bool) ⊕ (List Int × Int × Bool))
  | 0, _, _, _, _ => none
  | n + 1, p9, p10, p11, p12 =>
    bif (decide (p12 < (p9.length : Int))) then
      bif ((decide ((0 : Int) ≤ p12)) && (decide (p12 < (p9.length : Int)))) then
      (f_spec_l1In (p9.getD p12.toNat 0) 0 65535).bind fun y13 =>
      bif (!y13) then
        some (.inl false)
      else
        f_spec_l1Words.l0 n p9 p10 p11 (IntKind.wrap .i64 (p12 + (1 : Int)))
      else none
    else
      some (.inr (p9, p10, p11))
noncomputable def f_spec_l1Words (x0 : List Int) (x1 : Int) : Option (Bool) :=
  (f_spec_l1Words.l0 N x0 x1 false 0).bind fun r14 =>
  cs r14 (fun a15 =>
    some a15) (fun b16 =>
    some (decide ((b16.1.length : Int) = b16.2.1)))
noncomputable def C112 : Con := ⟨[(.B, false, [(.sl R0)]), (.B, false, [(.int .i64)])], [(false, [.bool])], [(.sl R0), (.int .i64)], [.bool], fun (p : List Int × Int) => f_spec_l1Words p.1 p.2⟩
noncomputable def f_spec_l1Words.l0.c : LoopCon := ⟨1000, 6, [0, 1, 4, 5], ⟨[(0, .bor none R0 []), (1, .int .i64 0), (4, .bool false), (5, .int .i64 0)], [], 1000⟩, [(.sl R0), (.int .i64), .bool, (.int .i64)], [⟨.ret, [4], ⟨[(4, .bool false)], [], 1000⟩, [.bool]⟩, ⟨.exit 0, [0, 1, 4], ⟨[(0, .bor none R0 []), (1, .int .i64 0), (4, .bool false)], [], 1000⟩, [(.sl R0), (.int .i64), .bool]⟩], fun (p : List Int × Int × Bool × Int) => f_spec_l1Words.l0 N p.1 p.2.1 p.2.2.1 p.2.2.2⟩
noncomputable abbrev K112 : Cons := [(94, C94)]
noncomputable abbrev L112 : List (Nat × Loops) := [(112, [(2, f_spec_l1Words.l0.c)])]
abbrev Q112 : List (Nat × List (Int × Nat) × Nat) := []
noncomputable abbrev X112 : Nat → Ctx := ctxOf tb K112 L112 Q112
theorem f_spec_l1Words.l0.ok : ∀ n p, (fun (p : List Int × Int × Bool × Int) => f_spec_l1Words.l0 n p.1 p.2.1 p.2.2.1 p.2.2.2) p = iterD (roundOf fs X112 6 112 2 false f_spec_l1Words.l0.c) n p :=
  iter_of (l := fun n => fun (p : List Int × Int × Bool × Int) => f_spec_l1Words.l0 n p.1 p.2.1 p.2.2.1 p.2.2.2) (fun _ => rfl) (fun n p => by kernel_rfl)
theorem E112 : ∀ x, funRun fs X112 6 112 C112 x = C112.fn x := fun x => by kernel_rfl
theorem B112 : ConB Try.prog 112 C112 := ConB.make FS MIX TY (cons := K112) (L := L112) (ptrs := Q112) ⟨S94, trivial⟩ trivial ⟨⟨⟨N, fun p => f_spec_l1Words.l0.ok N p⟩, trivial⟩, trivial⟩ rfl rfl E112
theorem S112 : ConS Try.prog 112 C112 := B112.call rfl
/-! spec.HartOk: function 104 -/
noncomputable def f_spec_HartOk (x0 : List Int) (x1 : Int) (x2 : Int) : Option (Bool) :=
  (f_spec_l1Words x0 4).bind fun y17 =>
  bif y17 then
    (f_spec_l1In x1 0 23).bind fun y18 =>
    bif y18 then
      (f_spec_l1In x2 0 2).bind fun y19 =>
      some y19
    else
      some false
  else
    some false
noncomputable def C104 : Con := ⟨[(.B, true, [(.sl R0), (.int .i64), (.int .i64)])], [(false, [.bool])], [(.sl R0), (.int .i64), (.int .i64)], [.bool], fun (p : List Int × Int × Int) => f_spec_HartOk p.1 p.2.1 p.2.2⟩
noncomputable abbrev K104 : Cons := [(94, C94), (112, C112)]
noncomputable abbrev L104 : List (Nat × Loops) := []
abbrev Q104 : List (Nat × List (Int × Nat) × Nat) := []
noncomputable abbrev X104 : Nat → Ctx := ctxOf tb K104 L104 Q104
theorem E104 : ∀ x, funRun fs X104 6 104 C104 x = C104.fn x := fun x => by kernel_rfl
theorem B104 : ConB Try.prog 104 C104 := ConB.make FS MIX TY (cons := K104) (L := L104) (ptrs := Q104) ⟨S94, S112, trivial⟩ trivial trivial rfl rfl E104
theorem S104 : ConS Try.prog 104 C104 := B104.call rfl
/-! spec.l9Address: function 105 -/
noncomputable def f_spec_l9Address (x0 : Int) : Option (Int) :=
  bif (decide ((Int.tmod x0 (24 : Int)) < (0 : Int))) then
    some (IntKind.wrap .i64 ((Int.tmod x0 (24 : Int)) + (24 : Int)))
  else
    some (Int.tmod x0 (24 : Int))
noncomputable def C105 : Con := ⟨[(.B, false, [(.int .i64)])], [(false, [(.int .i64)])], [(.int .i64)], [(.int .i64)], fun (p : Int) => f_spec_l9Address p⟩
noncomputable abbrev K105 : Cons := []
noncomputable abbrev L105 : List (Nat × Loops) := []
abbrev Q105 : List (Nat × List (Int × Nat) × Nat) := []
noncomputable abbrev X105 : Nat → Ctx := ctxOf tb K105 L105 Q105
theorem E105 : ∀ x, funRun fs X105 6 105 C105 x = C105.fn x := fun x => by kernel_rfl
theorem B105 : ConB Try.prog 105 C105 := ConB.make FS MIX TY (cons := K105) (L := L105) (ptrs := Q105) trivial trivial trivial rfl rfl E105
theorem S105 : ConS Try.prog 105 C105 := B105.call rfl
/-! spec.l8Has: function 129 -/
noncomputable def f_spec_l8Has (x0 : Int) : Option (Int) :=
  (f_spec_l1In x0 1 10).bind fun y20 =>
  bif (!y20) then
    some 0
  else
    bif ((decide ((0 : Int) ≤ x0)) && (decide (x0 < (([0, 9, 7, 11, 11, 14, 15, 10, 8, 0, 7] : List Int).length : Int)))) then
    some (([0, 9, 7, 11, 11, 14, 15, 10, 8, 0, 7] : List Int).getD x0.toNat 0)
    else none
noncomputable def C129 : Con := ⟨[(.B, false, [(.int .i64)])], [(false, [(.int .i64)])], [(.int .i64)], [(.int .i64)], fun (p : Int) => f_spec_l8Has p⟩
noncomputable abbrev K129 : Cons := [(94, C94)]
noncomputable abbrev L129 : List (Nat × Loops) := []
abbrev Q129 : List (Nat × List (Int × Nat) × Nat) := []
noncomputable abbrev X129 : Nat → Ctx := ctxOf tb K129 L129 Q129
theorem E129 : ∀ x, funRun fs X129 6 129 C129 x = C129.fn x := fun x => by kernel_rfl
theorem B129 : ConB Try.prog 129 C129 := ConB.make FS MIX TY (cons := K129) (L := L129) (ptrs := Q129) ⟨S94, trivial⟩ trivial trivial rfl rfl E129
theorem S129 : ConS Try.prog 129 C129 := B129.call rfl
/-! spec.l8Field: function 130 -/
noncomputable def f_spec_l8Field (x0 : Int) (x1 : Int) (x2 : Bool) : Option (Bool) :=
  (f_spec_l1In x0 0 x1).bind fun y21 =>
  bif y21 then
    bif x2 then
      some true
    else
      some (decide (x0 = (0 : Int)))
  else
    some false
noncomputable def C130 : Con := ⟨[(.B, false, [(.int .i64)]), (.B, false, [(.int .i64)]), (.B, false, [.bool])], [(false, [.bool])], [(.int .i64), (.int .i64), .bool], [.bool], fun (p : Int × Int × Bool) => f_spec_l8Field p.1 p.2.1 p.2.2⟩
noncomputable abbrev K130 : Cons := [(94, C94)]
noncomputable abbrev L130 : List (Nat × Loops) := []
abbrev Q130 : List (Nat × List (Int × Nat) × Nat) := []
noncomputable abbrev X130 : Nat → Ctx := ctxOf tb K130 L130 Q130
theorem E130 : ∀ x, funRun fs X130 6 130 C130 x = C130.fn x := fun x => by kernel_rfl
theorem B130 : ConB Try.prog 130 C130 := ConB.make FS MIX TY (cons := K130) (L := L130) (ptrs := Q130) ⟨S94, trivial⟩ trivial trivial rfl rfl E130
theorem S130 : ConS Try.prog 130 C130 := B130.call rfl
/-! spec.InsOk: function 82 -/
noncomputable def f_spec_InsOk (x0 : Int) (x1 : Int) (x2 : Int) (x3 : Int) (x4 : Int) : Option (Bool) :=
  (f_spec_l8Has x0).bind fun y22 =>
  (f_spec_l1In x0 1 10).bind fun y23 =>
  bif y23 then
    (f_spec_l8Field x1 3 (!(decide ((bitI .and .i64 y22 (1 : Int)) = (0 : Int))))).bind fun y24 =>
    bif y24 then
      (f_spec_l8Field x2 3 (!(decide ((bitI .and .i64 y22 (2 : Int)) = (0 : Int))))).bind fun y25 =>
      bif y25 then
        (f_spec_l8Field x3 3 (!(decide ((bitI .and .i64 y22 (4 : Int)) = (0 : Int))))).bind fun y26 =>
        bif y26 then
          (f_spec_l8Field x4 63 (!(decide ((bitI .and .i64 y22 (8 : Int)) = (0 : Int))))).bind fun y27 =>
          some y27
        else
          some false
      else
        some false
    else
      some false
  else
    some false
noncomputable def C82 : Con := ⟨[(.B, true, [(.int .i64), (.int .i64), (.int .i64), (.int .i64), (.int .i64)])], [(false, [.bool])], [(.int .i64), (.int .i64), (.int .i64), (.int .i64), (.int .i64)], [.bool], fun (p : Int × Int × Int × Int × Int) => f_spec_InsOk p.1 p.2.1 p.2.2.1 p.2.2.2.1 p.2.2.2.2⟩
noncomputable abbrev K82 : Cons := [(94, C94), (129, C129), (130, C130)]
noncomputable abbrev L82 : List (Nat × Loops) := []
abbrev Q82 : List (Nat × List (Int × Nat) × Nat) := []
noncomputable abbrev X82 : Nat → Ctx := ctxOf tb K82 L82 Q82
theorem E82 : ∀ x, funRun fs X82 6 82 C82 x = C82.fn x := fun x => by kernel_rfl
theorem B82 : ConB Try.prog 82 C82 := ConB.make FS MIX TY (cons := K82) (L := L82) (ptrs := Q82) ⟨S94, S129, S130, trivial⟩ trivial trivial rfl rfl E82
theorem S82 : ConS Try.prog 82 C82 := B82.call rfl
/-! spec.l9Word: function 106 -/
noncomputable def f_spec_l9Word (x0 : Int) : Option (Int) :=
  some (bitI .and .i64 x0 (65535 : Int))
noncomputable def C106 : Con := ⟨[(.B, false, [(.int .i64)])], [(false, [(.int .i64)])], [(.int .i64)], [(.int .i64)], fun (p : Int) => f_spec_l9Word p⟩
noncomputable abbrev K106 : Cons := []
noncomputable abbrev L106 : List (Nat × Loops) := []
abbrev Q106 : List (Nat × List (Int × Nat) × Nat) := []
noncomputable abbrev X106 : Nat → Ctx := ctxOf tb K106 L106 Q106
theorem E106 : ∀ x, funRun fs X106 6 106 C106 x = C106.fn x := fun x => by kernel_rfl
theorem B106 : ConB Try.prog 106 C106 := ConB.make FS MIX TY (cons := K106) (L := L106) (ptrs := Q106) trivial trivial trivial rfl rfl E106
theorem S106 : ConS Try.prog 106 C106 := B106.call rfl
/-! spec.Work: function 43 -/
noncomputable def f_spec_Work (x0 : List Int) (x1 : Int) (x2 : Int) (x3 : Int) (x4 : Int) (x5 : Int) (x6 : Int) (x7 : Int) (x8 : Int) : Option (List Int × Int × Int × Int) :=
  (f_spec_l9Copy x0 x1 x2).bind fun y28 =>
  (f_spec_HartOk x0 x1 x2).bind fun y29 =>
  bif (!y29) then
    some (y28.1, y28.2.1, y28.2.2, -1)
  else
    bif (!(decide (x2 = (0 : Int)))) then
      some (y28.1, y28.2.1, y28.2.2, -1)
    else
      (f_spec_l1In x8 0 65535).bind fun y30 =>
      bif (!y30) then
        some (y28.1, y28.2.1, y28.2.2, -1)
      else
        (f_spec_l9Address (IntKind.wrap .i64 (x1 + (1 : Int)))).bind fun y31 =>
        (f_spec_InsOk x3 x4 x5 x6 x7).bind fun y32 =>
        bif (!y32) then
          some (y28.1, x1, 2, -1)
        else
          bif ((decide ((0 : Int) ≤ x5)) && (decide (x5 < (x0.length : Int)))) then
          bif ((decide ((0 : Int) ≤ x6)) && (decide (x6 < (x0.length : Int)))) then
          bif (decide (x3 = (1 : Int))) then
            bif ((decide ((0 : Int) ≤ x4)) && (decide (x4 < (y28.1.length : Int)))) then
            (some ((y28.1.set x4.toNat x7) : List Int)).bind fun z33 =>
            some (z33, y31, y28.2.2, -1)
            else none
          else
            bif (decide (x3 = (2 : Int))) then
              (f_spec_l9Word (IntKind.wrap .i64 ((x0.getD x5.toNat 0) + (x0.getD x6.toNat 0)))).bind fun y34 =>
              bif ((decide ((0 : Int) ≤ x4)) && (decide (x4 < (y28.1.length : Int)))) then
              (some ((y28.1.set x4.toNat y34) : List Int)).bind fun z35 =>
              some (z35, y31, y28.2.2, -1)
              else none
            else
              bif (decide (x3 = (10 : Int))) then
                (f_spec_l9Word (IntKind.wrap .i64 ((x0.getD x5.toNat 0) - (x0.getD x6.toNat 0)))).bind fun y36 =>
                bif ((decide ((0 : Int) ≤ x4)) && (decide (x4 < (y28.1.length : Int)))) then
                (some ((y28.1.set x4.toNat y36) : List Int)).bind fun z37 =>
                some (z37, y31, y28.2.2, -1)
                else none
              else
                bif (decide (x3 = (3 : Int))) then
                  (f_spec_l9Word (IntKind.wrap .i64 ((x0.getD x5.toNat 0) + x7))).bind fun y38 =>
                  bif ((decide ((0 : Int) ≤ x4)) && (decide (x4 < (y28.1.length : Int)))) then
                  (some ((y28.1.set x4.toNat y38) : List Int)).bind fun z39 =>
                  some (z39, y31, y28.2.2, -1)
                  else none
                else
                  bif (decide (x3 = (4 : Int))) then
                    bif ((decide ((0 : Int) ≤ x4)) && (decide (x4 < (y28.1.length : Int)))) then
                    (some ((y28.1.set x4.toNat x8) : List Int)).bind fun z40 =>
                    some (z40, y31, y28.2.2, -1)
                    else none
                  else
                    bif (decide (x3 = (5 : Int))) then
                      some (y28.1, y31, y28.2.2, (x0.getD x6.toNat 0))
                    else
                      bif (decide (x3 = (6 : Int))) then
                        bif ((decide ((0 : Int) ≤ x4)) && (decide (x4 < (y28.1.length : Int)))) then
                        (some ((y28.1.set x4.toNat x8) : List Int)).bind fun z41 =>
                        (f_spec_l9Word (IntKind.wrap .i64 (x8 + (x0.getD x6.toNat 0)))).bind fun y42 =>
                        some (z41, y31, y28.2.2, y42)
                        else none
                      else
                        bif (decide (x3 = (7 : Int))) then
                          bif (decide ((x0.getD x5.toNat 0) = (0 : Int))) then
                            (f_spec_l9Address x7).bind fun y43 =>
                            some (y28.1, y43, y28.2.2, -1)
                          else
                            some (y28.1, y31, y28.2.2, -1)
                        else
                          bif (decide (x3 = (8 : Int))) then
                            (f_spec_l9Address x7).bind fun y44 =>
                            some (y28.1, y44, y28.2.2, -1)
                          else
                            bif (decide (x3 = (9 : Int))) then
                              some (y28.1, x1, 1, -1)
                            else
                              some (y28.1, y31, y28.2.2, -1)
          else none
          else none
noncomputable def C43 : Con := ⟨[(.B, true, [(.sl R0), (.int .i64), (.int .i64)]), (.B, true, [(.int .i64), (.int .i64), (.int .i64), (.int .i64), (.int .i64)]), (.B, false, [(.int .i64)])], [(true, [(.sl R0), (.int .i64), (.int .i64)]), (false, [(.int .i64)])], [(.sl R0), (.int .i64), (.int .i64), (.int .i64), (.int .i64), (.int .i64), (.int .i64), (.int .i64), (.int .i64)], [(.sl R0), (.int .i64), (.int .i64), (.int .i64)], fun (p : List Int × Int × Int × Int × Int × Int × Int × Int × Int) => f_spec_Work p.1 p.2.1 p.2.2.1 p.2.2.2.1 p.2.2.2.2.1 p.2.2.2.2.2.1 p.2.2.2.2.2.2.1 p.2.2.2.2.2.2.2.1 p.2.2.2.2.2.2.2.2⟩
noncomputable abbrev K43 : Cons := [(82, C82), (94, C94), (103, C103), (104, C104), (105, C105), (106, C106)]
noncomputable abbrev L43 : List (Nat × Loops) := []
abbrev Q43 : List (Nat × List (Int × Nat) × Nat) := []
noncomputable abbrev X43 : Nat → Ctx := ctxOf tb K43 L43 Q43
theorem E43 : ∀ x, funRun fs X43 6 43 C43 x = C43.fn x := fun x => by kernel_rfl
theorem B43 : ConB Try.prog 43 C43 := ConB.make FS MIX TY (cons := K43) (L := L43) (ptrs := Q43) ⟨S82, S94, S103, S104, S105, S106, trivial⟩ trivial trivial rfl rfl E43
theorem S43 : ConS Try.prog 43 C43 := B43.call rfl
/-! slices.Clone[[]int,int]: function 101 -/
noncomputable def f_slices_Clone_int_int (x0 : List Int) : Option (List Int) := bif Nat.blt (0 + x0.length) 17592186044416 then some x0 else none
noncomputable def C101 : Con := ⟨[(.B, false, [(.sl R0)])], [(false, [(.sl R0)])], [(.sl R0)], [(.sl R0)], f_slices_Clone_int_int⟩
noncomputable abbrev X101 : Nat → Ctx := ctxOf tb [] [] []
theorem E101 : ∀ x : List R0.den, bodyRun fs X101 6 101 C101 [] [] [.bor (some 1000) R0 x] [] = f_slices_Clone_int_int x := fun x => by kernel_rfl
theorem Z101 : bodyRun fs X101 6 101 C101 [] [] [.nil (some R0)] [] = f_slices_Clone_int_int ([] : List R0.den) := by kernel_rfl
theorem B101 : ConB Try.prog 101 C101 := ConB.copy FS MIX TY (cons := []) (L := []) (ptrs := []) trivial trivial trivial rfl E101 Z101
theorem S101 : ConS Try.prog 101 C101 := B101.call rfl
/-! impl.copyHart: function 107 -/
noncomputable def f_impl_copyHart (x0 : List Int) (x1 : Int) (x2 : Int) : Option (List Int × Int × Int) :=
  (f_slices_Clone_int_int x0).bind fun y45 =>
  some (y45, x1, x2)
noncomputable def C107 : Con := ⟨[(.B, true, [(.sl R0), (.int .i64), (.int .i64)])], [(true, [(.sl R0), (.int .i64), (.int .i64)])], [(.sl R0), (.int .i64), (.int .i64)], [(.sl R0), (.int .i64), (.int .i64)], fun (p : List Int × Int × Int) => f_impl_copyHart p.1 p.2.1 p.2.2⟩
noncomputable abbrev K107 : Cons := [(101, C101)]
noncomputable abbrev L107 : List (Nat × Loops) := []
abbrev Q107 : List (Nat × List (Int × Nat) × Nat) := []
noncomputable abbrev X107 : Nat → Ctx := ctxOf tb K107 L107 Q107
theorem E107 : ∀ x, funRun fs X107 6 107 C107 x = C107.fn x := fun x => by kernel_rfl
theorem B107 : ConB Try.prog 107 C107 := ConB.make FS MIX TY (cons := K107) (L := L107) (ptrs := Q107) ⟨S101, trivial⟩ trivial trivial rfl rfl E107
theorem S107 : ConS Try.prog 107 C107 := B107.call rfl
/-! impl.from: function 118 -/
noncomputable def f_impl_from (x0 : Int) (x1 : Int) (x2 : Int) : Option (Bool) :=
  bif (decide (x1 ≤ x0)) then
    some (decide (x0 ≤ x2))
  else
    some false
noncomputable def C118 : Con := ⟨[(.B, false, [(.int .i64)]), (.B, false, [(.int .i64)]), (.B, false, [(.int .i64)])], [(false, [.bool])], [(.int .i64), (.int .i64), (.int .i64)], [.bool], fun (p : Int × Int × Int) => f_impl_from p.1 p.2.1 p.2.2⟩
noncomputable abbrev K118 : Cons := []
noncomputable abbrev L118 : List (Nat × Loops) := []
abbrev Q118 : List (Nat × List (Int × Nat) × Nat) := []
noncomputable abbrev X118 : Nat → Ctx := ctxOf tb K118 L118 Q118
theorem E118 : ∀ x, funRun fs X118 6 118 C118 x = C118.fn x := fun x => by kernel_rfl
theorem B118 : ConB Try.prog 118 C118 := ConB.make FS MIX TY (cons := K118) (L := L118) (ptrs := Q118) trivial trivial trivial rfl rfl E118
theorem S118 : ConS Try.prog 118 C118 := B118.call rfl
/-! impl.isWord: function 109 -/
noncomputable def f_impl_isWord (x0 : Int) : Option (Bool) :=
  (f_impl_from x0 0 65535).bind fun y46 =>
  some y46
noncomputable def C109 : Con := ⟨[(.B, false, [(.int .i64)])], [(false, [.bool])], [(.int .i64)], [.bool], fun (p : Int) => f_impl_isWord p⟩
noncomputable abbrev K109 : Cons := [(118, C118)]
noncomputable abbrev L109 : List (Nat × Loops) := []
abbrev Q109 : List (Nat × List (Int × Nat) × Nat) := []
noncomputable abbrev X109 : Nat → Ctx := ctxOf tb K109 L109 Q109
theorem E109 : ∀ x, funRun fs X109 6 109 C109 x = C109.fn x := fun x => by kernel_rfl
theorem B109 : ConB Try.prog 109 C109 := ConB.make FS MIX TY (cons := K109) (L := L109) (ptrs := Q109) ⟨S118, trivial⟩ trivial trivial rfl rfl E109
theorem S109 : ConS Try.prog 109 C109 := B109.call rfl
/-! impl.wordsOk$1: function 163 -/
noncomputable def f_impl_wordsOk_1 (x0 : Int) : Option (Bool) :=
  (f_impl_isWord x0).bind fun y47 =>
  some (!y47)
noncomputable def C163 : Con := ⟨[(.B, false, [(.int .i64)])], [(false, [.bool])], [(.int .i64)], [.bool], fun (p : Int) => f_impl_wordsOk_1 p⟩
noncomputable abbrev K163 : Cons := [(109, C109)]
noncomputable abbrev L163 : List (Nat × Loops) := []
abbrev Q163 : List (Nat × List (Int × Nat) × Nat) := []
noncomputable abbrev X163 : Nat → Ctx := ctxOf tb K163 L163 Q163
theorem E163 : ∀ x, funRun fs X163 6 163 C163 x = C163.fn x := fun x => by kernel_rfl
theorem B163 : ConB Try.prog 163 C163 := ConB.make FS MIX TY (cons := K163) (L := L163) (ptrs := Q163) ⟨S109, trivial⟩ trivial trivial rfl rfl E163
theorem S163 : ConS Try.prog 163 C163 := B163.call rfl
/-! impl.wordsOk: function 125 -/
noncomputable def f_impl_wordsOk.l0 : Nat → (List Int) → Int → Int → Int → Option ((Int) ⊕ (Int))
  | 0, _, _, _, _ => none
  | n + 1, p48, p49, p50, p51 =>
    bif (decide (p51 < p50)) then
      bif ((decide ((0 : Int) ≤ p51)) && (decide (p51 < (p48.length : Int)))) then
      (f_impl_wordsOk_1 (p48.getD p51.toNat 0)).bind fun y52 =>
      bif y52 then
        some (.inl p51)
      else
        f_impl_wordsOk.l0 n p48 p49 p50 (IntKind.wrap .i64 (p51 + (1 : Int)))
      else none
    else
      some (.inr p49)
noncomputable def f_impl_wordsOk (x0 : List Int) (x1 : Int) : Option (Bool) :=
  bif (decide ((x0.length : Int) = x1)) then
    (f_impl_wordsOk.l0 N x0 0 (x0.length : Int) 0).bind fun r53 =>
    cs r53 (fun a54 =>
      some (!(decide ((0 : Int) ≤ a54)))) (fun b55 =>
      some true)
  else
    some false
noncomputable def C125 : Con := ⟨[(.B, false, [(.sl R0)]), (.B, false, [(.int .i64)])], [(false, [.bool])], [(.sl R0), (.int .i64)], [.bool], fun (p : List Int × Int) => f_impl_wordsOk p.1 p.2⟩
noncomputable def f_impl_wordsOk.l0.c : LoopCon := ⟨1274, 4, [0, 1, 4, 7, 8], ⟨[(0, .bor none R0 []), (1, .func 163 []), (4, .int .i64 0), (7, .int .i64 0), (8, .int .i64 0)], [], 1274⟩, [(.sl R0), (.int .i64), (.int .i64), (.int .i64)], [⟨.ret, [4], ⟨[(4, .int .i64 0)], [], 1274⟩, [(.int .i64)]⟩, ⟨.exit 0, [4], ⟨[(4, .int .i64 0)], [], 1274⟩, [(.int .i64)]⟩], fun (p : List Int × Int × Int × Int) => f_impl_wordsOk.l0 N p.1 p.2.1 p.2.2.1 p.2.2.2⟩
noncomputable abbrev K125 : Cons := [(163, C163)]
noncomputable abbrev L125 : List (Nat × Loops) := [(181, [(2, f_impl_wordsOk.l0.c)])]
abbrev Q125 : List (Nat × List (Int × Nat) × Nat) := []
noncomputable abbrev X125 : Nat → Ctx := ctxOf tb K125 L125 Q125
theorem f_impl_wordsOk.l0.ok : ∀ n p, (fun (p : List Int × Int × Int × Int) => f_impl_wordsOk.l0 n p.1 p.2.1 p.2.2.1 p.2.2.2) p = iterD (roundOf fs X125 4 181 2 true f_impl_wordsOk.l0.c) n p :=
  iter_of (l := fun n => fun (p : List Int × Int × Int × Int) => f_impl_wordsOk.l0 n p.1 p.2.1 p.2.2.1 p.2.2.2) (fun _ => rfl) (fun n p => by kernel_rfl)
theorem E125 : ∀ x, funRun fs X125 6 125 C125 x = C125.fn x := fun x => by kernel_rfl
theorem B125 : ConB Try.prog 125 C125 := ConB.make FS MIX TY (cons := K125) (L := L125) (ptrs := Q125) ⟨S163, trivial⟩ trivial ⟨⟨⟨N, fun p => f_impl_wordsOk.l0.ok N p⟩, trivial⟩, trivial⟩ rfl rfl E125
theorem S125 : ConS Try.prog 125 C125 := B125.call rfl
/-! impl.isCell: function 95 -/
noncomputable def f_impl_isCell (x0 : Int) : Option (Bool) :=
  (f_impl_from x0 0 23).bind fun y56 =>
  some y56
noncomputable def C95 : Con := ⟨[(.B, false, [(.int .i64)])], [(false, [.bool])], [(.int .i64)], [.bool], fun (p : Int) => f_impl_isCell p⟩
noncomputable abbrev K95 : Cons := [(118, C118)]
noncomputable abbrev L95 : List (Nat × Loops) := []
abbrev Q95 : List (Nat × List (Int × Nat) × Nat) := []
noncomputable abbrev X95 : Nat → Ctx := ctxOf tb K95 L95 Q95
theorem E95 : ∀ x, funRun fs X95 6 95 C95 x = C95.fn x := fun x => by kernel_rfl
theorem B95 : ConB Try.prog 95 C95 := ConB.make FS MIX TY (cons := K95) (L := L95) (ptrs := Q95) ⟨S118, trivial⟩ trivial trivial rfl rfl E95
theorem S95 : ConS Try.prog 95 C95 := B95.call rfl
/-! impl.HartOk: function 108 -/
noncomputable def f_impl_HartOk (x0 : List Int) (x1 : Int) (x2 : Int) : Option (Bool) :=
  (f_impl_wordsOk x0 4).bind fun y57 =>
  bif y57 then
    (f_impl_isCell x1).bind fun y58 =>
    bif y58 then
      (f_impl_from x2 0 2).bind fun y59 =>
      some y59
    else
      some false
  else
    some false
noncomputable def C108 : Con := ⟨[(.B, true, [(.sl R0), (.int .i64), (.int .i64)])], [(false, [.bool])], [(.sl R0), (.int .i64), (.int .i64)], [.bool], fun (p : List Int × Int × Int) => f_impl_HartOk p.1 p.2.1 p.2.2⟩
noncomputable abbrev K108 : Cons := [(95, C95), (118, C118), (125, C125)]
noncomputable abbrev L108 : List (Nat × Loops) := []
abbrev Q108 : List (Nat × List (Int × Nat) × Nat) := []
noncomputable abbrev X108 : Nat → Ctx := ctxOf tb K108 L108 Q108
theorem E108 : ∀ x, funRun fs X108 6 108 C108 x = C108.fn x := fun x => by kernel_rfl
theorem B108 : ConB Try.prog 108 C108 := ConB.make FS MIX TY (cons := K108) (L := L108) (ptrs := Q108) ⟨S95, S118, S125, trivial⟩ trivial trivial rfl rfl E108
theorem S108 : ConS Try.prog 108 C108 := B108.call rfl
/-! impl.form: function 126 -/
noncomputable def f_impl_form (x0 : Int) : Option (ByteArray × Bool) :=
  bif (decide (x0 = (1 : Int))) then
    some ((⟨#[82, 78]⟩ : ByteArray), true)
  else
    bif (decide (x0 = (2 : Int))) then
      some ((⟨#[82, 65, 66]⟩ : ByteArray), true)
    else
      bif (decide (x0 = (10 : Int))) then
        some ((⟨#[82, 65, 66]⟩ : ByteArray), true)
      else
        bif (decide (x0 = (3 : Int))) then
          some ((⟨#[82, 65, 78]⟩ : ByteArray), true)
        else
          bif (decide (x0 = (4 : Int))) then
            some ((⟨#[82, 65, 78]⟩ : ByteArray), true)
          else
            bif (decide (x0 = (5 : Int))) then
              some ((⟨#[65, 66, 78]⟩ : ByteArray), true)
            else
              bif (decide (x0 = (6 : Int))) then
                some ((⟨#[82, 65, 66, 78]⟩ : ByteArray), true)
              else
                bif (decide (x0 = (7 : Int))) then
                  some ((⟨#[65, 78]⟩ : ByteArray), true)
                else
                  bif (decide (x0 = (8 : Int))) then
                    some ((⟨#[78]⟩ : ByteArray), true)
                  else
                    bif (decide (x0 = (9 : Int))) then
                      some ((⟨#[]⟩ : ByteArray), true)
                    else
                      some ((⟨#[]⟩ : ByteArray), false)
noncomputable def C126 : Con := ⟨[(.B, false, [(.int .i64)])], [(false, [.str]), (false, [.bool])], [(.int .i64)], [.str, .bool], fun (p : Int) => f_impl_form p⟩
noncomputable abbrev K126 : Cons := []
noncomputable abbrev L126 : List (Nat × Loops) := []
abbrev Q126 : List (Nat × List (Int × Nat) × Nat) := []
noncomputable abbrev X126 : Nat → Ctx := ctxOf tb K126 L126 Q126
theorem E126 : ∀ x, funRun fs X126 6 126 C126 x = C126.fn x := fun x => by kernel_rfl
theorem B126 : ConB Try.prog 126 C126 := ConB.make FS MIX TY (cons := K126) (L := L126) (ptrs := Q126) trivial trivial trivial rfl rfl E126
theorem S126 : ConS Try.prog 126 C126 := B126.call rfl
/-! impl.InsOk: function 76 -/
noncomputable def f_impl_InsOk.l0 : Nat → Bool → ByteArray → Bool → Int → Int → Int → Int → Int → Int → Int → Int → Int → Int → Int → Int → Option (Bool × Bool × Int × Int × Int × Int × Int × Int × Int × Int × Int × Int)
  | 0, _, _, _, _, _, _, _, _, _, _, _, _, _, _, _ => none
  | n + 1, p61, p62, p63, p64, p65, p66, p67, p68, p69, p70, p71, p72, p73, p74, p75 =>
    bif (decide (p65 < p64)) then
      bif ((decide ((0 : Int) ≤ p65)) && (decide (p65 < (p62.size : Int)))) then
      bif (decide (((p62.data.getD p65.toNat 0).toNat : Int) = (82 : Int))) then
        bif ((decide ((0 : Int) ≤ p65)) && (decide (p65 < (p62.size : Int)))) then
        bif (decide (((p62.data.getD p65.toNat 0).toNat : Int) = (82 : Int))) then
          f_impl_InsOk.l0 n p61 p62 p63 p64 (IntKind.wrap .i64 (p65 + (1 : Int))) p66 p67 p68 p69 p70 p71 p67 p73 p74 p75
        else
          bif (decide (((p62.data.getD p65.toNat 0).toNat : Int) = (65 : Int))) then
            f_impl_InsOk.l0 n p61 p62 p63 p64 (IntKind.wrap .i64 (p65 + (1 : Int))) p66 p67 p68 p69 p70 p71 p68 p73 p74 p75
          else
            bif (decide (((p62.data.getD p65.toNat 0).toNat : Int) = (66 : Int))) then
              f_impl_InsOk.l0 n p61 p62 p63 p64 (IntKind.wrap .i64 (p65 + (1 : Int))) p66 p67 p68 p69 p70 p71 p69 p73 p74 p75
            else
              f_impl_InsOk.l0 n p61 p62 p63 p64 (IntKind.wrap .i64 (p65 + (1 : Int))) p66 p67 p68 p69 p70 p71 p70 p73 p74 p75
        else none
      else
        bif (decide (((p62.data.getD p65.toNat 0).toNat : Int) = (65 : Int))) then
          bif ((decide ((0 : Int) ≤ p65)) && (decide (p65 < (p62.size : Int)))) then
          bif (decide (((p62.data.getD p65.toNat 0).toNat : Int) = (82 : Int))) then
            f_impl_InsOk.l0 n p61 p62 p63 p64 (IntKind.wrap .i64 (p65 + (1 : Int))) p66 p67 p68 p69 p70 p71 p72 p67 p74 p75
          else
            bif (decide (((p62.data.getD p65.toNat 0).toNat : Int) = (65 : Int))) then
              f_impl_InsOk.l0 n p61 p62 p63 p64 (IntKind.wrap .i64 (p65 + (1 : Int))) p66 p67 p68 p69 p70 p71 p72 p68 p74 p75
            else
              bif (decide (((p62.data.getD p65.toNat 0).toNat : Int) = (66 : Int))) then
                f_impl_InsOk.l0 n p61 p62 p63 p64 (IntKind.wrap .i64 (p65 + (1 : Int))) p66 p67 p68 p69 p70 p71 p72 p69 p74 p75
              else
                f_impl_InsOk.l0 n p61 p62 p63 p64 (IntKind.wrap .i64 (p65 + (1 : Int))) p66 p67 p68 p69 p70 p71 p72 p70 p74 p75
          else none
        else
          bif (decide (((p62.data.getD p65.toNat 0).toNat : Int) = (66 : Int))) then
            bif ((decide ((0 : Int) ≤ p65)) && (decide (p65 < (p62.size : Int)))) then
            bif (decide (((p62.data.getD p65.toNat 0).toNat : Int) = (82 : Int))) then
              f_impl_InsOk.l0 n p61 p62 p63 p64 (IntKind.wrap .i64 (p65 + (1 : Int))) p66 p67 p68 p69 p70 p71 p72 p73 p67 p75
            else
              bif (decide (((p62.data.getD p65.toNat 0).toNat : Int) = (65 : Int))) then
                f_impl_InsOk.l0 n p61 p62 p63 p64 (IntKind.wrap .i64 (p65 + (1 : Int))) p66 p67 p68 p69 p70 p71 p72 p73 p68 p75
              else
                bif (decide (((p62.data.getD p65.toNat 0).toNat : Int) = (66 : Int))) then
                  f_impl_InsOk.l0 n p61 p62 p63 p64 (IntKind.wrap .i64 (p65 + (1 : Int))) p66 p67 p68 p69 p70 p71 p72 p73 p69 p75
                else
                  f_impl_InsOk.l0 n p61 p62 p63 p64 (IntKind.wrap .i64 (p65 + (1 : Int))) p66 p67 p68 p69 p70 p71 p72 p73 p70 p75
            else none
          else
            bif ((decide ((0 : Int) ≤ p65)) && (decide (p65 < (p62.size : Int)))) then
            bif (decide (((p62.data.getD p65.toNat 0).toNat : Int) = (82 : Int))) then
              f_impl_InsOk.l0 n p61 p62 p63 p64 (IntKind.wrap .i64 (p65 + (1 : Int))) p66 p67 p68 p69 p70 p71 p72 p73 p74 p67
            else
              bif (decide (((p62.data.getD p65.toNat 0).toNat : Int) = (65 : Int))) then
                f_impl_InsOk.l0 n p61 p62 p63 p64 (IntKind.wrap .i64 (p65 + (1 : Int))) p66 p67 p68 p69 p70 p71 p72 p73 p74 p68
              else
                bif (decide (((p62.data.getD p65.toNat 0).toNat : Int) = (66 : Int))) then
                  f_impl_InsOk.l0 n p61 p62 p63 p64 (IntKind.wrap .i64 (p65 + (1 : Int))) p66 p67 p68 p69 p70 p71 p72 p73 p74 p69
                else
                  f_impl_InsOk.l0 n p61 p62 p63 p64 (IntKind.wrap .i64 (p65 + (1 : Int))) p66 p67 p68 p69 p70 p71 p72 p73 p74 p70
            else none
      else none
    else
      some (p61, p63, p66, p67, p68, p69, p70, p71, p72, p73, p74, p75)
noncomputable def f_impl_InsOk (x0 : Int) (x1 : Int) (x2 : Int) (x3 : Int) (x4 : Int) : Option (Bool) :=
  (f_impl_form x0).bind fun y60 =>
  (f_impl_InsOk.l0 N false y60.1 y60.2 (y60.1.size : Int) 0 x0 x1 x2 x3 x4 x0 0 0 0 0).bind fun r76 =>
  bif r76.2.1 then
    bif ((decide (r76.2.2.2.2.2.2.2.1 = r76.2.2.1)) && ((decide (r76.2.2.2.2.2.2.2.2.1 = r76.2.2.2.1)) && ((decide (r76.2.2.2.2.2.2.2.2.2.1 = r76.2.2.2.2.1)) && ((decide (r76.2.2.2.2.2.2.2.2.2.2.1 = r76.2.2.2.2.2.1)) && (decide (r76.2.2.2.2.2.2.2.2.2.2.2 = r76.2.2.2.2.2.2.1)))))) then
      (f_impl_from r76.2.2.2.1 0 3).bind fun y77 =>
      bif y77 then
        (f_impl_from r76.2.2.2.2.1 0 3).bind fun y78 =>
        bif y78 then
          (f_impl_from r76.2.2.2.2.2.1 0 3).bind fun y79 =>
          bif y79 then
            (f_impl_from r76.2.2.2.2.2.2.1 0 63).bind fun y80 =>
            some y80
          else
            some false
        else
          some false
      else
        some false
    else
      some false
  else
    some false
noncomputable def C76 : Con := ⟨[(.B, true, [(.int .i64), (.int .i64), (.int .i64), (.int .i64), (.int .i64)])], [(false, [.bool])], [(.int .i64), (.int .i64), (.int .i64), (.int .i64), (.int .i64)], [.bool], fun (p : Int × Int × Int × Int × Int) => f_impl_InsOk p.1 p.2.1 p.2.2.1 p.2.2.2.1 p.2.2.2.2⟩
noncomputable def f_impl_InsOk.l0.c : LoopCon := ⟨1000, 6, [1, 2, 3, 4, 5, 17, 18], ⟨[(1, .ptr 1000 0), (2, .bool false), (3, .str ⟨#[]⟩), (4, .bool false), (5, .ptr 1001 0), (17, .int .i64 0), (18, .int .i64 0)], [(1000, .box [.int .i64 0, .int .i64 0, .int .i64 0, .int .i64 0, .int .i64 0]), (1001, .box [.int .i64 0, .int .i64 0, .int .i64 0, .int .i64 0, .int .i64 0])], 1002⟩, [.bool, .str, .bool, (.int .i64), (.int .i64), (.int .i64), (.int .i64), (.int .i64), (.int .i64), (.int .i64), (.int .i64), (.int .i64), (.int .i64), (.int .i64), (.int .i64)], [⟨.exit 0, [1, 2, 4, 5], ⟨[(1, .ptr 1000 0), (2, .bool false), (4, .bool false), (5, .ptr 1001 0)], [(1000, .box [.int .i64 0, .int .i64 0, .int .i64 0, .int .i64 0, .int .i64 0]), (1001, .box [.int .i64 0, .int .i64 0, .int .i64 0, .int .i64 0, .int .i64 0])], 1002⟩, [.bool, .bool, (.int .i64), (.int .i64), (.int .i64), (.int .i64), (.int .i64), (.int .i64), (.int .i64), (.int .i64), (.int .i64), (.int .i64)]⟩], fun (p : Bool × ByteArray × Bool × Int × Int × Int × Int × Int × Int × Int × Int × Int × Int × Int × Int) => f_impl_InsOk.l0 N p.1 p.2.1 p.2.2.1 p.2.2.2.1 p.2.2.2.2.1 p.2.2.2.2.2.1 p.2.2.2.2.2.2.1 p.2.2.2.2.2.2.2.1 p.2.2.2.2.2.2.2.2.1 p.2.2.2.2.2.2.2.2.2.1 p.2.2.2.2.2.2.2.2.2.2.1 p.2.2.2.2.2.2.2.2.2.2.2.1 p.2.2.2.2.2.2.2.2.2.2.2.2.1 p.2.2.2.2.2.2.2.2.2.2.2.2.2.1 p.2.2.2.2.2.2.2.2.2.2.2.2.2.2⟩
noncomputable abbrev K76 : Cons := [(118, C118), (126, C126)]
noncomputable abbrev L76 : List (Nat × Loops) := [(76, [(4, f_impl_InsOk.l0.c)])]
abbrev Q76 : List (Nat × List (Int × Nat) × Nat) := [(127, [(82, 1), (65, 2), (66, 3)], 4)]
noncomputable abbrev X76 : Nat → Ctx := ctxOf tb K76 L76 Q76
theorem f_impl_InsOk.l0.ok : ∀ n p, (fun (p : Bool × ByteArray × Bool × Int × Int × Int × Int × Int × Int × Int × Int × Int × Int × Int × Int) => f_impl_InsOk.l0 n p.1 p.2.1 p.2.2.1 p.2.2.2.1 p.2.2.2.2.1 p.2.2.2.2.2.1 p.2.2.2.2.2.2.1 p.2.2.2.2.2.2.2.1 p.2.2.2.2.2.2.2.2.1 p.2.2.2.2.2.2.2.2.2.1 p.2.2.2.2.2.2.2.2.2.2.1 p.2.2.2.2.2.2.2.2.2.2.2.1 p.2.2.2.2.2.2.2.2.2.2.2.2.1 p.2.2.2.2.2.2.2.2.2.2.2.2.2.1 p.2.2.2.2.2.2.2.2.2.2.2.2.2.2) p = iterD (roundOf fs X76 6 76 4 false f_impl_InsOk.l0.c) n p :=
  iter_of (l := fun n => fun (p : Bool × ByteArray × Bool × Int × Int × Int × Int × Int × Int × Int × Int × Int × Int × Int × Int) => f_impl_InsOk.l0 n p.1 p.2.1 p.2.2.1 p.2.2.2.1 p.2.2.2.2.1 p.2.2.2.2.2.1 p.2.2.2.2.2.2.1 p.2.2.2.2.2.2.2.1 p.2.2.2.2.2.2.2.2.1 p.2.2.2.2.2.2.2.2.2.1 p.2.2.2.2.2.2.2.2.2.2.1 p.2.2.2.2.2.2.2.2.2.2.2.1 p.2.2.2.2.2.2.2.2.2.2.2.2.1 p.2.2.2.2.2.2.2.2.2.2.2.2.2.1 p.2.2.2.2.2.2.2.2.2.2.2.2.2.2) (fun _ => rfl) (fun n p => by kernel_rfl)
theorem E76 : ∀ x, funRun fs X76 6 76 C76 x = C76.fn x := fun x => by kernel_rfl
theorem B76 : ConB Try.prog 76 C76 := ConB.make FS MIX TY (cons := K76) (L := L76) (ptrs := Q76) ⟨S118, S126, trivial⟩ ⟨PT127, trivial⟩ ⟨⟨⟨N, fun p => f_impl_InsOk.l0.ok N p⟩, trivial⟩, trivial⟩ rfl rfl E76
theorem S76 : ConS Try.prog 76 C76 := B76.call rfl
/-! impl.address: function 110 -/
noncomputable def f_impl_address (x0 : Int) : Option (Int) :=
  some (Int.tmod (IntKind.wrap .i64 ((Int.tmod x0 (24 : Int)) + (24 : Int))) (24 : Int))
noncomputable def C110 : Con := ⟨[(.B, false, [(.int .i64)])], [(false, [(.int .i64)])], [(.int .i64)], [(.int .i64)], fun (p : Int) => f_impl_address p⟩
noncomputable abbrev K110 : Cons := []
noncomputable abbrev L110 : List (Nat × Loops) := []
abbrev Q110 : List (Nat × List (Int × Nat) × Nat) := []
noncomputable abbrev X110 : Nat → Ctx := ctxOf tb K110 L110 Q110
theorem E110 : ∀ x, funRun fs X110 6 110 C110 x = C110.fn x := fun x => by kernel_rfl
theorem B110 : ConB Try.prog 110 C110 := ConB.make FS MIX TY (cons := K110) (L := L110) (ptrs := Q110) trivial trivial trivial rfl rfl E110
theorem S110 : ConS Try.prog 110 C110 := B110.call rfl
/-! impl.wrapped: function 111 -/
noncomputable def f_impl_wrapped (x0 : Int) : Option (Int) :=
  some (Int.tmod (IntKind.wrap .i64 ((IntKind.wrap .i64 ((Int.tmod x0 (65536 : Int)) + (65535 : Int))) + (1 : Int))) (65536 : Int))
noncomputable def C111 : Con := ⟨[(.B, false, [(.int .i64)])], [(false, [(.int .i64)])], [(.int .i64)], [(.int .i64)], fun (p : Int) => f_impl_wrapped p⟩
noncomputable abbrev K111 : Cons := []
noncomputable abbrev L111 : List (Nat × Loops) := []
abbrev Q111 : List (Nat × List (Int × Nat) × Nat) := []
noncomputable abbrev X111 : Nat → Ctx := ctxOf tb K111 L111 Q111
theorem E111 : ∀ x, funRun fs X111 6 111 C111 x = C111.fn x := fun x => by kernel_rfl
theorem B111 : ConB Try.prog 111 C111 := ConB.make FS MIX TY (cons := K111) (L := L111) (ptrs := Q111) trivial trivial trivial rfl rfl E111
theorem S111 : ConS Try.prog 111 C111 := B111.call rfl
/-! impl.Work: function 46 -/
noncomputable def f_impl_Work (x0 : List Int) (x1 : Int) (x2 : Int) (x3 : Int) (x4 : Int) (x5 : Int) (x6 : Int) (x7 : Int) (x8 : Int) : Option (List Int × Int × Int × Int) :=
  (f_impl_copyHart x0 x1 x2).bind fun y81 =>
  (f_impl_HartOk y81.1 y81.2.1 y81.2.2).bind fun y82 =>
  bif (!y82) then
    some (y81.1, y81.2.1, y81.2.2, -1)
  else
    bif (!(decide (y81.2.2 = (0 : Int)))) then
      some (y81.1, y81.2.1, y81.2.2, -1)
    else
      (f_impl_isWord x8).bind fun y83 =>
      bif (!y83) then
        some (y81.1, y81.2.1, y81.2.2, -1)
      else
        (f_impl_InsOk x3 x4 x5 x6 x7).bind fun y84 =>
        bif (!y84) then
          some (y81.1, y81.2.1, 2, -1)
        else
          bif ((decide ((0 : Int) ≤ x5)) && (decide (x5 < (y81.1.length : Int)))) then
          bif ((decide ((0 : Int) ≤ x6)) && (decide (x6 < (y81.1.length : Int)))) then
          (f_impl_address (IntKind.wrap .i64 (y81.2.1 + (1 : Int)))).bind fun y85 =>
          bif (decide (x3 = (1 : Int))) then
            bif ((decide ((0 : Int) ≤ x4)) && (decide (x4 < (y81.1.length : Int)))) then
            (some ((y81.1.set x4.toNat x7) : List Int)).bind fun z86 =>
            some (z86, y85, y81.2.2, -1)
            else none
          else
            bif (decide (x3 = (2 : Int))) then
              (f_impl_wrapped (IntKind.wrap .i64 ((y81.1.getD x5.toNat 0) + (y81.1.getD x6.toNat 0)))).bind fun y87 =>
              bif ((decide ((0 : Int) ≤ x4)) && (decide (x4 < (y81.1.length : Int)))) then
              (some ((y81.1.set x4.toNat y87) : List Int)).bind fun z88 =>
              some (z88, y85, y81.2.2, -1)
              else none
            else
              bif (decide (x3 = (10 : Int))) then
                (f_impl_wrapped (IntKind.wrap .i64 ((y81.1.getD x5.toNat 0) - (y81.1.getD x6.toNat 0)))).bind fun y89 =>
                bif ((decide ((0 : Int) ≤ x4)) && (decide (x4 < (y81.1.length : Int)))) then
                (some ((y81.1.set x4.toNat y89) : List Int)).bind fun z90 =>
                some (z90, y85, y81.2.2, -1)
                else none
              else
                bif (decide (x3 = (3 : Int))) then
                  (f_impl_wrapped (IntKind.wrap .i64 ((y81.1.getD x5.toNat 0) + x7))).bind fun y91 =>
                  bif ((decide ((0 : Int) ≤ x4)) && (decide (x4 < (y81.1.length : Int)))) then
                  (some ((y81.1.set x4.toNat y91) : List Int)).bind fun z92 =>
                  some (z92, y85, y81.2.2, -1)
                  else none
                else
                  bif (decide (x3 = (4 : Int))) then
                    bif ((decide ((0 : Int) ≤ x4)) && (decide (x4 < (y81.1.length : Int)))) then
                    (some ((y81.1.set x4.toNat x8) : List Int)).bind fun z93 =>
                    some (z93, y85, y81.2.2, -1)
                    else none
                  else
                    bif (decide (x3 = (5 : Int))) then
                      some (y81.1, y85, y81.2.2, (y81.1.getD x6.toNat 0))
                    else
                      bif (decide (x3 = (6 : Int))) then
                        bif ((decide ((0 : Int) ≤ x4)) && (decide (x4 < (y81.1.length : Int)))) then
                        (some ((y81.1.set x4.toNat x8) : List Int)).bind fun z94 =>
                        (f_impl_wrapped (IntKind.wrap .i64 (x8 + (y81.1.getD x6.toNat 0)))).bind fun y95 =>
                        some (z94, y85, y81.2.2, y95)
                        else none
                      else
                        bif (decide (x3 = (7 : Int))) then
                          bif (decide ((y81.1.getD x5.toNat 0) = (0 : Int))) then
                            (f_impl_address x7).bind fun y96 =>
                            some (y81.1, y96, y81.2.2, -1)
                          else
                            some (y81.1, y85, y81.2.2, -1)
                        else
                          bif (decide (x3 = (8 : Int))) then
                            (f_impl_address x7).bind fun y97 =>
                            some (y81.1, y97, y81.2.2, -1)
                          else
                            bif (decide (x3 = (9 : Int))) then
                              some (y81.1, y81.2.1, 1, -1)
                            else
                              some (y81.1, y85, y81.2.2, -1)
          else none
          else none
noncomputable def C46 : Con := ⟨[(.B, true, [(.sl R0), (.int .i64), (.int .i64)]), (.B, true, [(.int .i64), (.int .i64), (.int .i64), (.int .i64), (.int .i64)]), (.B, false, [(.int .i64)])], [(true, [(.sl R0), (.int .i64), (.int .i64)]), (false, [(.int .i64)])], [(.sl R0), (.int .i64), (.int .i64), (.int .i64), (.int .i64), (.int .i64), (.int .i64), (.int .i64), (.int .i64)], [(.sl R0), (.int .i64), (.int .i64), (.int .i64)], fun (p : List Int × Int × Int × Int × Int × Int × Int × Int × Int) => f_impl_Work p.1 p.2.1 p.2.2.1 p.2.2.2.1 p.2.2.2.2.1 p.2.2.2.2.2.1 p.2.2.2.2.2.2.1 p.2.2.2.2.2.2.2.1 p.2.2.2.2.2.2.2.2⟩
noncomputable abbrev K46 : Cons := [(76, C76), (107, C107), (108, C108), (109, C109), (110, C110), (111, C111)]
noncomputable abbrev L46 : List (Nat × Loops) := []
abbrev Q46 : List (Nat × List (Int × Nat) × Nat) := []
noncomputable abbrev X46 : Nat → Ctx := ctxOf tb K46 L46 Q46
theorem E46 : ∀ x, funRun fs X46 6 46 C46 x = C46.fn x := fun x => by kernel_rfl
theorem B46 : ConB Try.prog 46 C46 := ConB.make FS MIX TY (cons := K46) (L := L46) (ptrs := Q46) ⟨S76, S107, S108, S109, S110, S111, trivial⟩ trivial trivial rfl rfl E46
theorem S46 : ConS Try.prog 46 C46 := B46.call rfl
/-! laws.eqIntS: function 27 -/
noncomputable def f_laws_eqIntS.l0 : Nat → (List Int) → (List Int) → Bool → Int → Option ((Bool) ⊕ (Bool))
  | 0, _, _, _, _ => none
  | n + 1, p98, p99, p100, p101 =>
    bif (decide (p101 < (p98.length : Int))) then
      bif ((decide ((0 : Int) ≤ p101)) && (decide (p101 < (p98.length : Int)))) then
      bif ((decide ((0 : Int) ≤ p101)) && (decide (p101 < (p99.length : Int)))) then
      bif (!(decide ((p98.getD p101.toNat 0) = (p99.getD p101.toNat 0)))) then
        some (.inl false)
      else
        f_laws_eqIntS.l0 n p98 p99 p100 (IntKind.wrap .i64 (p101 + (1 : Int)))
      else none
      else none
    else
      some (.inr p100)
noncomputable def f_laws_eqIntS (x0 : List Int) (x1 : List Int) : Option (Bool) :=
  bif (!(decide ((x0.length : Int) = (x1.length : Int)))) then
    some false
  else
    (f_laws_eqIntS.l0 N x0 x1 false 0).bind fun r102 =>
    cs r102 (fun a103 =>
      some a103) (fun b104 =>
      some true)
noncomputable def C27 : Con := ⟨[(.B, false, [(.sl R0)]), (.B, false, [(.sl R0)])], [(false, [.bool])], [(.sl R0), (.sl R0)], [.bool], fun (p : List Int × List Int) => f_laws_eqIntS p.1 p.2⟩
noncomputable def f_laws_eqIntS.l0.c : LoopCon := ⟨1000, 6, [0, 1, 4, 5], ⟨[(0, .bor none R0 []), (1, .bor none R0 []), (4, .bool false), (5, .int .i64 0)], [], 1000⟩, [(.sl R0), (.sl R0), .bool, (.int .i64)], [⟨.ret, [4], ⟨[(4, .bool false)], [], 1000⟩, [.bool]⟩, ⟨.exit 0, [4], ⟨[(4, .bool false)], [], 1000⟩, [.bool]⟩], fun (p : List Int × List Int × Bool × Int) => f_laws_eqIntS.l0 N p.1 p.2.1 p.2.2.1 p.2.2.2⟩
noncomputable abbrev K27 : Cons := []
noncomputable abbrev L27 : List (Nat × Loops) := [(27, [(4, f_laws_eqIntS.l0.c)])]
abbrev Q27 : List (Nat × List (Int × Nat) × Nat) := []
noncomputable abbrev X27 : Nat → Ctx := ctxOf tb K27 L27 Q27
theorem f_laws_eqIntS.l0.ok : ∀ n p, (fun (p : List Int × List Int × Bool × Int) => f_laws_eqIntS.l0 n p.1 p.2.1 p.2.2.1 p.2.2.2) p = iterD (roundOf fs X27 6 27 4 false f_laws_eqIntS.l0.c) n p :=
  iter_of (l := fun n => fun (p : List Int × List Int × Bool × Int) => f_laws_eqIntS.l0 n p.1 p.2.1 p.2.2.1 p.2.2.2) (fun _ => rfl) (fun n p => by kernel_rfl)
theorem E27 : ∀ x, funRun fs X27 6 27 C27 x = C27.fn x := fun x => by kernel_rfl
theorem B27 : ConB Try.prog 27 C27 := ConB.make FS MIX TY (cons := K27) (L := L27) (ptrs := Q27) trivial trivial ⟨⟨⟨N, fun p => f_laws_eqIntS.l0.ok N p⟩, trivial⟩, trivial⟩ rfl rfl E27
theorem S27 : ConS Try.prog 27 C27 := B27.call rfl
/-! laws.eqHart: function 47 -/
noncomputable def f_laws_eqHart (x0 : List Int) (x1 : Int) (x2 : Int) (x3 : List Int) (x4 : Int) (x5 : Int) : Option (Bool) :=
  (f_laws_eqIntS x0 x3).bind fun y105 =>
  bif (!y105) then
    some false
  else
    bif (!(decide (x1 = x4))) then
      some false
    else
      bif (!(decide (x2 = x5))) then
        some false
      else
        some true
noncomputable def C47 : Con := ⟨[(.B, true, [(.sl R0), (.int .i64), (.int .i64)]), (.B, true, [(.sl R0), (.int .i64), (.int .i64)])], [(false, [.bool])], [(.sl R0), (.int .i64), (.int .i64), (.sl R0), (.int .i64), (.int .i64)], [.bool], fun (p : List Int × Int × Int × List Int × Int × Int) => f_laws_eqHart p.1 p.2.1 p.2.2.1 p.2.2.2.1 p.2.2.2.2.1 p.2.2.2.2.2⟩
noncomputable abbrev K47 : Cons := [(27, C27)]
noncomputable abbrev L47 : List (Nat × Loops) := []
abbrev Q47 : List (Nat × List (Int × Nat) × Nat) := []
noncomputable abbrev X47 : Nat → Ctx := ctxOf tb K47 L47 Q47
theorem E47 : ∀ x, funRun fs X47 6 47 C47 x = C47.fn x := fun x => by kernel_rfl
theorem B47 : ConB Try.prog 47 C47 := ConB.make FS MIX TY (cons := K47) (L := L47) (ptrs := Q47) ⟨S27, trivial⟩ trivial trivial rfl rfl E47
theorem S47 : ConS Try.prog 47 C47 := B47.call rfl
/-! laws.markIntS: function 28 -/
noncomputable def f_laws_markIntS.l0 : Nat → Int → Int → Int → (List Int) → Option (Int × Int × List Int)
  | 0, _, _, _, _ => none
  | n + 1, p106, p107, p108, p109 =>
    bif (decide (p108 < (p109.length : Int))) then
      bif ((decide ((0 : Int) ≤ p108)) && (decide (p108 < (p109.length : Int)))) then
      (some ((p109.set p108.toNat p106) : List Int)).bind fun z110 =>
      f_laws_markIntS.l0 n (IntKind.wrap .i64 (p106 + (1 : Int))) p107 (IntKind.wrap .i64 (p108 + (1 : Int))) z110
      else none
    else
      some (p106, p107, p109)
noncomputable def f_laws_markIntS (x0 : List Int) (x1 : Int) : Option (Int × List Int) :=
  (f_laws_markIntS.l0 N x1 0 0 x0).bind fun r111 =>
  some (r111.1, r111.2.2)
noncomputable def C28 : Con := ⟨[(.I, false, [(.sl R0)]), (.B, false, [(.int .i64)])], [(false, [(.int .i64)])], [(.sl R0), (.int .i64)], [(.int .i64), (.sl R0)], fun (p : List Int × Int) => f_laws_markIntS p.1 p.2⟩
noncomputable def f_laws_markIntS.l0.c : LoopCon := ⟨1000, 6, [0, 1, 4, 5], ⟨[(0, .ref 0 [] none), (1, .int .i64 0), (4, .int .i64 0), (5, .int .i64 0)], [(0, .row R0 [])], 1000⟩, [(.int .i64), (.int .i64), (.int .i64), (.sl R0)], [⟨.exit 0, [1, 4], ⟨[(1, .int .i64 0), (4, .int .i64 0)], [(0, .row R0 [])], 1000⟩, [(.int .i64), (.int .i64), (.sl R0)]⟩], fun (p : Int × Int × Int × List Int) => f_laws_markIntS.l0 N p.1 p.2.1 p.2.2.1 p.2.2.2⟩
noncomputable abbrev K28 : Cons := []
noncomputable abbrev L28 : List (Nat × Loops) := [(28, [(2, f_laws_markIntS.l0.c)])]
abbrev Q28 : List (Nat × List (Int × Nat) × Nat) := []
noncomputable abbrev X28 : Nat → Ctx := ctxOf tb K28 L28 Q28
theorem f_laws_markIntS.l0.ok : ∀ n p, (fun (p : Int × Int × Int × List Int) => f_laws_markIntS.l0 n p.1 p.2.1 p.2.2.1 p.2.2.2) p = iterD (roundOf fs X28 6 28 2 false f_laws_markIntS.l0.c) n p :=
  iter_of (l := fun n => fun (p : Int × Int × Int × List Int) => f_laws_markIntS.l0 n p.1 p.2.1 p.2.2.1 p.2.2.2) (fun _ => rfl) (fun n p => by kernel_rfl)
theorem E28 : ∀ x, funG fs X28 6 28 C28 x = C28.fn x := fun x => by kernel_rfl
theorem B28 : ConG Try.prog 28 C28 := ConG.make FS MIX TY (cons := K28) (L := L28) (ptrs := Q28) trivial trivial ⟨⟨⟨N, fun p => f_laws_markIntS.l0.ok N p⟩, trivial⟩, trivial⟩ rfl (by kernel_rfl) E28
theorem S28 : ConS Try.prog 28 C28 := B28.call (by kernel_rfl)
/-! laws.markHart: function 48 -/
noncomputable def f_laws_markHart (x0 : List Int) (x1 : Int) (x2 : Int) (x3 : Int) : Option (Int × List Int) :=
  (f_laws_markIntS x0 x3).bind fun y112 =>
  (some (y112.2 : List Int)).bind fun z113 =>
  some (y112.1, z113)
noncomputable def C48 : Con := ⟨[(.I, true, [(.sl R0), (.int .i64), (.int .i64)]), (.B, false, [(.int .i64)])], [(false, [(.int .i64)])], [(.sl R0), (.int .i64), (.int .i64), (.int .i64)], [(.int .i64), (.sl R0)], fun (p : List Int × Int × Int × Int) => f_laws_markHart p.1 p.2.1 p.2.2.1 p.2.2.2⟩
noncomputable abbrev K48 : Cons := [(28, C28)]
noncomputable abbrev L48 : List (Nat × Loops) := []
abbrev Q48 : List (Nat × List (Int × Nat) × Nat) := []
noncomputable abbrev X48 : Nat → Ctx := ctxOf tb K48 L48 Q48
theorem E48 : ∀ x, funG fs X48 6 48 C48 x = C48.fn x := fun x => by kernel_rfl
theorem B48 : ConG Try.prog 48 C48 := ConG.make FS MIX TY (cons := K48) (L := L48) (ptrs := Q48) ⟨S28, trivial⟩ trivial trivial rfl (by kernel_rfl) E48
theorem S48 : ConS Try.prog 48 C48 := B48.call (by kernel_rfl)
/-! laws.heldIntS: function 52 -/
noncomputable def f_laws_heldIntS.l0 : Nat → (List Int) → Int → Int → Int → Option ((Int) ⊕ (Int × Int))
  | 0, _, _, _, _ => none
  | n + 1, p114, p115, p116, p117 =>
    bif (decide (p117 < (p114.length : Int))) then
      bif ((decide ((0 : Int) ≤ p117)) && (decide (p117 < (p114.length : Int)))) then
      bif (!(decide ((p114.getD p117.toNat 0) = p115))) then
        some (.inl (-1))
      else
        f_laws_heldIntS.l0 n p114 (IntKind.wrap .i64 (p115 + (1 : Int))) p116 (IntKind.wrap .i64 (p117 + (1 : Int)))
      else none
    else
      some (.inr (p115, p116))
noncomputable def f_laws_heldIntS (x0 : List Int) (x1 : Int) : Option (Int) :=
  (f_laws_heldIntS.l0 N x0 x1 0 0).bind fun r118 =>
  cs r118 (fun a119 =>
    some a119) (fun b120 =>
    some b120.1)
noncomputable def C52 : Con := ⟨[(.B, false, [(.sl R0)]), (.B, false, [(.int .i64)])], [(false, [(.int .i64)])], [(.sl R0), (.int .i64)], [(.int .i64)], fun (p : List Int × Int) => f_laws_heldIntS p.1 p.2⟩
noncomputable def f_laws_heldIntS.l0.c : LoopCon := ⟨1000, 6, [0, 1, 4, 5], ⟨[(0, .bor none R0 []), (1, .int .i64 0), (4, .int .i64 0), (5, .int .i64 0)], [], 1000⟩, [(.sl R0), (.int .i64), (.int .i64), (.int .i64)], [⟨.ret, [4], ⟨[(4, .int .i64 0)], [], 1000⟩, [(.int .i64)]⟩, ⟨.exit 0, [1, 4], ⟨[(1, .int .i64 0), (4, .int .i64 0)], [], 1000⟩, [(.int .i64), (.int .i64)]⟩], fun (p : List Int × Int × Int × Int) => f_laws_heldIntS.l0 N p.1 p.2.1 p.2.2.1 p.2.2.2⟩
noncomputable abbrev K52 : Cons := []
noncomputable abbrev L52 : List (Nat × Loops) := [(52, [(2, f_laws_heldIntS.l0.c)])]
abbrev Q52 : List (Nat × List (Int × Nat) × Nat) := []
noncomputable abbrev X52 : Nat → Ctx := ctxOf tb K52 L52 Q52
theorem f_laws_heldIntS.l0.ok : ∀ n p, (fun (p : List Int × Int × Int × Int) => f_laws_heldIntS.l0 n p.1 p.2.1 p.2.2.1 p.2.2.2) p = iterD (roundOf fs X52 6 52 2 false f_laws_heldIntS.l0.c) n p :=
  iter_of (l := fun n => fun (p : List Int × Int × Int × Int) => f_laws_heldIntS.l0 n p.1 p.2.1 p.2.2.1 p.2.2.2) (fun _ => rfl) (fun n p => by kernel_rfl)
theorem E52 : ∀ x, funRun fs X52 6 52 C52 x = C52.fn x := fun x => by kernel_rfl
theorem B52 : ConB Try.prog 52 C52 := ConB.make FS MIX TY (cons := K52) (L := L52) (ptrs := Q52) trivial trivial ⟨⟨⟨N, fun p => f_laws_heldIntS.l0.ok N p⟩, trivial⟩, trivial⟩ rfl rfl E52
theorem S52 : ConS Try.prog 52 C52 := B52.call rfl
/-! laws.heldHart: function 49 -/
noncomputable def f_laws_heldHart (x0 : List Int) (x1 : Int) (x2 : Int) (x3 : Int) : Option (Int) :=
  (f_laws_heldIntS x0 x3).bind fun y121 =>
  bif (decide (y121 < (0 : Int))) then
    some (-1)
  else
    some y121
noncomputable def C49 : Con := ⟨[(.B, true, [(.sl R0), (.int .i64), (.int .i64)]), (.B, false, [(.int .i64)])], [(false, [(.int .i64)])], [(.sl R0), (.int .i64), (.int .i64), (.int .i64)], [(.int .i64)], fun (p : List Int × Int × Int × Int) => f_laws_heldHart p.1 p.2.1 p.2.2.1 p.2.2.2⟩
noncomputable abbrev K49 : Cons := [(52, C52)]
noncomputable abbrev L49 : List (Nat × Loops) := []
abbrev Q49 : List (Nat × List (Int × Nat) × Nat) := []
noncomputable abbrev X49 : Nat → Ctx := ctxOf tb K49 L49 Q49
theorem E49 : ∀ x, funRun fs X49 6 49 C49 x = C49.fn x := fun x => by kernel_rfl
theorem B49 : ConB Try.prog 49 C49 := ConB.make FS MIX TY (cons := K49) (L := L49) (ptrs := Q49) ⟨S52, trivial⟩ trivial trivial rfl rfl E49
theorem S49 : ConS Try.prog 49 C49 := B49.call rfl
/-! laws.FnExactWork: function 7 -/
noncomputable def f_laws_FnExactWork (x0 : List Int) (x1 : Int) (x2 : Int) (x3 : Int) (x4 : Int) (x5 : Int) (x6 : Int) (x7 : Int) (x8 : Int) : Option (Bool) :=
  (f_laws_szHart x0 x1 x2 1048576).bind fun y122 =>
  bif (decide (y122 < (0 : Int))) then
    some true
  else
    (f_laws_toHart x0 x1 x2).bind fun y123 =>
    (f_laws_toIns x3 x4 x5 x6 x7).bind fun y124 =>
    (f_spec_Work y123.1 y123.2.1 y123.2.2 y124.1 y124.2.1 y124.2.2.1 y124.2.2.2.1 y124.2.2.2.2 x8).bind fun y125 =>
    (f_laws_toHart x0 x1 x2).bind fun y126 =>
    (f_laws_toIns x3 x4 x5 x6 x7).bind fun y127 =>
    (f_impl_Work y126.1 y126.2.1 y126.2.2 y127.1 y127.2.1 y127.2.2.1 y127.2.2.2.1 y127.2.2.2.2 x8).bind fun y128 =>
    (f_laws_eqHart y128.1 y128.2.1 y128.2.2.1 y125.1 y125.2.1 y125.2.2.1).bind fun y129 =>
    bif (!y129) then
      some false
    else
      bif (!(decide (y128.2.2.2 = y125.2.2.2))) then
        some false
      else
        (f_laws_toHart x0 x1 x2).bind fun y130 =>
        (f_laws_eqHart y126.1 y126.2.1 y126.2.2 y130.1 y130.2.1 y130.2.2).bind fun y131 =>
        bif (!y131) then
          some false
        else
          (f_laws_markHart y126.1 y126.2.1 y126.2.2 1).bind fun y132 =>
          (some (y132.2 : List Int)).bind fun z133 =>
          bif (decide (y132.1 < (0 : Int))) then
            some false
          else
            (f_laws_eqHart y128.1 y128.2.1 y128.2.2.1 y125.1 y125.2.1 y125.2.2.1).bind fun y134 =>
            bif (!y134) then
              some false
            else
              bif (!(decide (y128.2.2.2 = y125.2.2.2))) then
                some false
              else
                (f_laws_markHart y128.1 y128.2.1 y128.2.2.1 1).bind fun y135 =>
                (some (y135.2 : List Int)).bind fun z136 =>
                (f_laws_heldHart z136 y128.2.1 y128.2.2.1 1).bind fun y137 =>
                bif (decide (y137 < (0 : Int))) then
                  some false
                else
                  bif (!(decide (y137 = y135.1))) then
                    some false
                  else
                    (f_laws_toHart x0 x1 x2).bind fun y138 =>
                    (f_laws_toIns x3 x4 x5 x6 x7).bind fun y139 =>
                    (f_impl_Work y138.1 y138.2.1 y138.2.2 y139.1 y139.2.1 y139.2.2.1 y139.2.2.2.1 y139.2.2.2.2 x8).bind fun y140 =>
                    (f_laws_eqHart y140.1 y140.2.1 y140.2.2.1 y125.1 y125.2.1 y125.2.2.1).bind fun y141 =>
                    bif (!y141) then
                      some false
                    else
                      bif (!(decide (y140.2.2.2 = y125.2.2.2))) then
                        some false
                      else
                        (f_laws_heldHart z136 y128.2.1 y128.2.2.1 1).bind fun y142 =>
                        bif (decide (y142 < (0 : Int))) then
                          some false
                        else
                          bif (!(decide (y142 = y135.1))) then
                            some false
                          else
                            some true
noncomputable def C7 : Con := ⟨[(.B, true, [(.sl R0), (.int .i64), (.int .i64)]), (.B, true, [(.int .i64), (.int .i64), (.int .i64), (.int .i64), (.int .i64)]), (.B, false, [(.int .i64)])], [(false, [.bool])], [(.sl R0), (.int .i64), (.int .i64), (.int .i64), (.int .i64), (.int .i64), (.int .i64), (.int .i64), (.int .i64)], [.bool], fun (p : List Int × Int × Int × Int × Int × Int × Int × Int × Int) => f_laws_FnExactWork p.1 p.2.1 p.2.2.1 p.2.2.2.1 p.2.2.2.2.1 p.2.2.2.2.2.1 p.2.2.2.2.2.2.1 p.2.2.2.2.2.2.2.1 p.2.2.2.2.2.2.2.2⟩
noncomputable abbrev K7 : Cons := [(42, C42), (43, C43), (44, C44), (45, C45), (46, C46), (47, C47), (48, C48), (49, C49)]
noncomputable abbrev L7 : List (Nat × Loops) := []
abbrev Q7 : List (Nat × List (Int × Nat) × Nat) := []
noncomputable abbrev X7 : Nat → Ctx := ctxOf tb K7 L7 Q7
theorem E7 : ∀ x, funRun fs X7 6 7 C7 x = C7.fn x := fun x => by kernel_rfl
theorem B7 : ConB Try.prog 7 C7 := ConB.make FS MIX TY (cons := K7) (L := L7) (ptrs := Q7) ⟨S42, S43, S44, S45, S46, S47, S48, S49, trivial⟩ trivial trivial rfl rfl E7
theorem S7 : ConS Try.prog 7 C7 := B7.call rfl
/-- What is left: the plain law. -/
def Pure : Prop := ∀ x : Tup [(.sl R0), (.int .i64), (.int .i64), (.int .i64), (.int .i64), (.int .i64), (.int .i64), (.int .i64), (.int .i64)], WfT [(.sl R0), (.int .i64), (.int .i64), (.int .i64), (.int .i64), (.int .i64), (.int .i64), (.int .i64), (.int .i64)] x → C7.fn x = some (true : Bool)
end
end Go.Abs
