import Derived.Test.YtgifligfbjnmfaaProg
import Derived.Test.YtgifligfbjnmfaaAbsD
import Derived.KernelRfl
namespace Go.Abs
open Go.Proofs
set_option linter.unusedVariables false
set_option maxRecDepth 100000
noncomputable section
abbrev N : Nat := 1152921504606846976
abbrev R0 : RT := .one (.int .i64)
noncomputable def tb : Tb := [(0, ⟨false, [], [], 0, 0⟩),
  (3, ⟨false, [(.int .i64)], [], 0, 8⟩),
  (4, ⟨false, [.bool], [], 0, 1⟩),
  (5, ⟨false, [(.int .u8)], [], 0, 1⟩),
  (9, ⟨false, [.str], [], 0, 16⟩),
  (22, ⟨false, [(.sl R0)], [], 3, 24⟩),
  (60, ⟨true, [(.sl R0), (.int .i64), (.int .i64)], [(0, 22), (1, 3), (2, 3)], 0, 40⟩),
  (64, ⟨true, [(.sl R0), (.int .i64), (.int .i64)], [(0, 22), (1, 3), (2, 3)], 0, 40⟩),
  (65, ⟨false, [], [], 0, 0⟩),
  (68, ⟨true, [(.int .i64), (.int .i64), (.int .i64), (.int .i64), (.int .i64)], [(0, 3), (1, 3), (2, 3), (3, 3), (4, 3)], 0, 40⟩),
  (73, ⟨false, [], [], 0, 0⟩),
  (97, ⟨false, [], [], 0, 0⟩),
  (119, ⟨false, [], [], 0, 8⟩),
  (135, ⟨false, [], [], 0, 0⟩),
  (137, ⟨false, [], [], 0, 8⟩),
  (179, ⟨false, [], [], 0, 8⟩)]
noncomputable def fsL : List (Nat × Func) := [(90, Try.f90), (42, Try.f42), (24, Try.f24), (44, Try.f44), (94, Try.f94), (112, Try.f112), (104, Try.f104), (103, Try.f103), (129, Try.f129), (130, Try.f130), (82, Try.f82), (79, Try.f79), (105, Try.f105), (63, Try.f63), (106, Try.f106), (43, Try.f43), (50, Try.f50), (101, Try.f101), (118, Try.f118), (109, Try.f109), (163, Try.f163), (181, Try.f181), (162, Try.f162), (125, Try.f125), (113, Try.f113), (95, Try.f95), (108, Try.f108), (114, Try.f114), (107, Try.f107), (126, Try.f126), (127, Try.f127), (76, Try.f76), (77, Try.f77), (123, Try.f123), (110, Try.f110), (62, Try.f62), (111, Try.f111), (46, Try.f46), (115, Try.f115), (51, Try.f51), (27, Try.f27), (47, Try.f47), (28, Try.f28), (48, Try.f48), (52, Try.f52), (49, Try.f49), (8, Try.f8)]
noncomputable def fs : Nat → Option Func := getF fsL
theorem MIX : Try.prog.follows .mixedOrders = true := by kernel_rfl
theorem TY : tyCheck Try.prog tb = true := by kernel_rfl
theorem CAT : catCheck tb = true := by kernel_rfl
theorem FSP : FsP Try.prog fsL := ⟨Try.func90, Try.func42, Try.func24, Try.func44, Try.func94, Try.func112, Try.func104, Try.func103, Try.func129, Try.func130, Try.func82, Try.func79, Try.func105, Try.func63, Try.func106, Try.func43, Try.func50, Try.func101, Try.func118, Try.func109, Try.func163, Try.func181, Try.func162, Try.func125, Try.func113, Try.func95, Try.func108, Try.func114, Try.func107, Try.func126, Try.func127, Try.func76, Try.func77, Try.func123, Try.func110, Try.func62, Try.func111, Try.func46, Try.func115, Try.func51, Try.func27, Try.func47, Try.func28, Try.func48, Try.func52, Try.func49, Try.func8, trivial⟩
theorem FSC : (fsL.all fun p => fnChk p.2) = true := by kernel_rfl
theorem FS : FsS Try.prog fs := FsS.of FSP FSC
theorem PT127 : PtrS Try.prog 127 [(82, 1), (65, 2), (66, 3)] 4 := PtrS.make FS MIX TY (cons := []) (L := []) (ptrs := []) trivial trivial trivial rfl (fun l => by kernel_rfl)
/-! laws.szIntS: function 90 -/
noncomputable def f_laws_szIntS (x0 : List Int) (x1 : Int) : Option (Int) :=
  bif (decide ((IntKind.wrap .i64 (x1 - (x0.length : Int))) < (0 : Int))) then
    some (-1)
  else
    some (IntKind.wrap .i64 (x1 - (x0.length : Int)))
noncomputable def C90 : Con := ⟨[(.B, false, [(.sl R0)]), (.B, false, [(.int .i64)])], [(false, [(.int .i64)])], [(.sl R0), (.int .i64)], [(.int .i64)], fun (p : List Int × Int) => f_laws_szIntS p.1 p.2⟩
noncomputable abbrev K90 : Cons := []
noncomputable abbrev L90 : List (Nat × Loops) := []
abbrev Q90 : List (Nat × List (Int × Nat) × Nat) := []
noncomputable abbrev X90 : Nat → Ctx := ctxOf tb K90 L90 Q90
theorem E90 : ∀ x, funRun fs X90 6 90 C90 x = C90.fn x := fun x => by kernel_rfl
theorem B90 : ConB Try.prog 90 C90 := ConB.make FS MIX TY (cons := K90) (L := L90) (ptrs := Q90) trivial trivial trivial rfl rfl E90
theorem S90 : ConS Try.prog 90 C90 := B90.call rfl
/-! laws.szHart: function 42 -/
noncomputable def f_laws_szHart (x0 : List Int) (x1 : Int) (x2 : Int) (x3 : Int) : Option (Int) :=
  (f_laws_szIntS x0 x3).bind fun y1 =>
  bif (decide (y1 < (0 : Int))) then
    some (-1)
  else
    some y1
noncomputable def C42 : Con := ⟨[(.B, true, [(.sl R0), (.int .i64), (.int .i64)]), (.B, false, [(.int .i64)])], [(false, [(.int .i64)])], [(.sl R0), (.int .i64), (.int .i64), (.int .i64)], [(.int .i64)], fun (p : List Int × Int × Int × Int) => f_laws_szHart p.1 p.2.1 p.2.2.1 p.2.2.2⟩
noncomputable abbrev K42 : Cons := [(90, C90)]
noncomputable abbrev L42 : List (Nat × Loops) := []
abbrev Q42 : List (Nat × List (Int × Nat) × Nat) := []
noncomputable abbrev X42 : Nat → Ctx := ctxOf tb K42 L42 Q42
theorem E42 : ∀ x, funRun fs X42 6 42 C42 x = C42.fn x := fun x => by kernel_rfl
theorem B42 : ConB Try.prog 42 C42 := ConB.make FS MIX TY (cons := K42) (L := L42) (ptrs := Q42) ⟨S90, trivial⟩ trivial trivial rfl rfl E42
theorem S42 : ConS Try.prog 42 C42 := B42.call rfl
/-! laws.toIntS: function 24 -/
noncomputable def f_laws_toIntS.l0 : Nat → (List Int) → Int → (List Int) → Option (List Int)
  | 0, _, _, _ => none
  | n + 1, p2, p3, p4 =>
    bif (decide (p3 < (p2.length : Int))) then
      bif ((decide ((0 : Int) ≤ p3)) && (decide (p3 < (p2.length : Int)))) then
      bif ((decide ((0 : Int) ≤ p3)) && (decide (p3 < (p4.length : Int)))) then
      (some ((p4.set p3.toNat (p2.getD p3.toNat 0)) : List Int)).bind fun z5 =>
      f_laws_toIntS.l0 n p2 (IntKind.wrap .i64 (p3 + (1 : Int))) z5
      else none
      else none
    else
      some p4
noncomputable def f_laws_toIntS (x0 : List Int) : Option (List Int) :=
  bif (decide ((0 : Int) ≤ (x0.length : Int)) && Nat.ble (x0.length : Int).toNat 17592186044416) then
  (f_laws_toIntS.l0 N x0 0 (List.replicate (x0.length : Int).toNat 0)).bind fun r6 =>
  some r6
  else none
noncomputable def C24 : Con := ⟨[(.B, false, [(.sl R0)])], [(false, [(.sl R0)])], [(.sl R0)], [(.sl R0)], fun (p : List Int) => f_laws_toIntS p⟩
noncomputable def f_laws_toIntS.l0.c : LoopCon := ⟨1000, 6, [0, 2, 3, 4], ⟨[(0, .bor none R0 []), (2, .nil (some R0)), (3, .ref 1000 [] none), (4, .int .i64 0)], [(1000, .row R0 [])], 1001⟩, [(.sl R0), (.int .i64), (.sl R0)], [⟨.exit 0, [2, 3], ⟨[(2, .nil (some R0)), (3, .ref 1000 [] none)], [(1000, .row R0 [])], 1001⟩, [(.sl R0)]⟩], fun (p : List Int × Int × List Int) => f_laws_toIntS.l0 N p.1 p.2.1 p.2.2⟩
noncomputable abbrev K24 : Cons := []
noncomputable abbrev L24 : List (Nat × Loops) := [(24, [(3, f_laws_toIntS.l0.c)])]
abbrev Q24 : List (Nat × List (Int × Nat) × Nat) := []
noncomputable abbrev X24 : Nat → Ctx := ctxOf tb K24 L24 Q24
theorem f_laws_toIntS.l0.ok : ∀ n p, (fun (p : List Int × Int × List Int) => f_laws_toIntS.l0 n p.1 p.2.1 p.2.2) p = iterD (roundOf fs X24 6 24 3 false f_laws_toIntS.l0.c) n p :=
  iter_of (l := fun n => fun (p : List Int × Int × List Int) => f_laws_toIntS.l0 n p.1 p.2.1 p.2.2) (fun _ => rfl) (fun n p => by kernel_rfl)
theorem E24 : ∀ x, funRun fs X24 6 24 C24 x = C24.fn x := fun x => by kernel_rfl
theorem B24 : ConB Try.prog 24 C24 := ConB.make FS MIX TY (cons := K24) (L := L24) (ptrs := Q24) trivial trivial ⟨⟨⟨N, fun p => f_laws_toIntS.l0.ok N p⟩, trivial⟩, trivial⟩ rfl rfl E24
theorem S24 : ConS Try.prog 24 C24 := B24.call rfl
/-! laws.toHart: function 44 -/
noncomputable def f_laws_toHart (x0 : List Int) (x1 : Int) (x2 : Int) : Option (List Int × Int × Int) :=
  (f_laws_toIntS x0).bind fun y7 =>
  some (y7, x1, x2)
noncomputable def C44 : Con := ⟨[(.B, true, [(.sl R0), (.int .i64), (.int .i64)])], [(true, [(.sl R0), (.int .i64), (.int .i64)])], [(.sl R0), (.int .i64), (.int .i64)], [(.sl R0), (.int .i64), (.int .i64)], fun (p : List Int × Int × Int) => f_laws_toHart p.1 p.2.1 p.2.2⟩
noncomputable abbrev K44 : Cons := [(24, C24)]
noncomputable abbrev L44 : List (Nat × Loops) := []
abbrev Q44 : List (Nat × List (Int × Nat) × Nat) := []
noncomputable abbrev X44 : Nat → Ctx := ctxOf tb K44 L44 Q44
theorem E44 : ∀ x, funRun fs X44 6 44 C44 x = C44.fn x := fun x => by kernel_rfl
theorem B44 : ConB Try.prog 44 C44 := ConB.make FS MIX TY (cons := K44) (L := L44) (ptrs := Q44) ⟨S24, trivial⟩ trivial trivial rfl rfl E44
theorem S44 : ConS Try.prog 44 C44 := B44.call rfl
/-! spec.l1In: function 94 -/
noncomputable def f_spec_l1In (x0 : Int) (x1 : Int) (x2 : Int) : Option (Bool) :=
  bif (decide (x1 ≤ x0)) then
    some (decide (x0 ≤ x2))
  else
    some false
noncomputable def C94 : Con := ⟨[(.B, false, [(.int .i64)]), (.B, false, [(.int .i64)]), (.B, false, [(.int .i64)])], [(false, [.bool])], [(.int .i64), (.int .i64), (.int .i64)], [.bool], fun (p : Int × Int × Int) => f_spec_l1In p.1 p.2.1 p.2.2⟩
noncomputable abbrev K94 : Cons := []
noncomputable abbrev L94 : List (Nat × Loops) := []
abbrev Q94 : List (Nat × List (Int × Nat) × Nat) := []
noncomputable abbrev X94 : Nat → Ctx := ctxOf tb K94 L94 Q94
theorem E94 : ∀ x, funRun fs X94 6 94 C94 x = C94.fn x := fun x => by kernel_rfl
theorem B94 : ConB Try.prog 94 C94 := ConB.make FS MIX TY (cons := K94) (L := L94) (ptrs := Q94) trivial trivial trivial rfl rfl E94
theorem S94 : ConS Try.prog 94 C94 := B94.call rfl
/-! spec.l1Words: function 112 -/
noncomputable def f_spec_l1Words.l0 : Nat → (List Int) → Int → Bool → Int → Option ((Bool) ⊕ (List Int × Int × Bool))
  | 0, _, _, _, _ => none
  | n + 1, p8, p9, p10, p11 =>
    bif (decide (p11 < (p8.length : Int))) then
      bif ((decide ((0 : Int) ≤ p11)) && (decide (p11 < (p8.length : Int)))) then
      (f_spec_l1In (p8.getD p11.toNat 0) 0 65535).bind fun y12 =>
      bif (!y12) then
        some (.inl false)
      else
        f_spec_l1Words.l0 n p8 p9 p10 (IntKind.wrap .i64 (p11 + (1 : Int)))
      else none
    else
      some (.inr (p8, p9, p10))
noncomputable def f_spec_l1Words (x0 : List Int) (x1 : Int) : Option (Bool) :=
  (f_spec_l1Words.l0 N x0 x1 false 0).bind fun r13 =>
  cs r13 (fun a14 =>
    some a14) (fun b15 =>
    some (decide ((b15.1.length : Int) = b15.2.1)))
noncomputable def C112 : Con := ⟨[(.B, false, [(.sl R0)]), (.B, false, [(.int .i64)])], [(false, [.bool])], [(.sl R0), (.int .i64)], [.bool], fun (p : List Int × Int) => f_spec_l1Words p.1 p.2⟩
noncomputable def f_spec_l1Words.l0.c : LoopCon := ⟨1000, 6, [0, 1, 4, 5], ⟨[(0, .bor none R0 []), (1, .int .i64 0), (4, .bool false), (5, .int .i64 0)], [], 1000⟩, [(.sl R0), (.int .i64), .bool, (.int .i64)], [⟨.ret, [4], ⟨[(4, .bool false)], [], 1000⟩, [.bool]⟩, ⟨.exit 0, [0, 1, 4], ⟨[(0, .bor none R0 []), (1, .int .i64 0), (4, .bool false)], [], 1000⟩, [(.sl R0), (.int .i64), .bool]⟩], fun (p : List Int × Int × Bool × Int) => f_spec_l1Words.l0 N p.1 p.2.1 p.2.2.1 p.2.2.2⟩
noncomputable abbrev K112 : Cons := [(94, C94)]
noncomputable abbrev L112 : List (Nat × Loops) := [(112, [(2, f_spec_l1Words.l0.c)])]
abbrev Q112 : List (Nat × List (Int × Nat) × Nat) := []
noncomputable abbrev X112 : Nat → Ctx := ctxOf tb K112 L112 Q112
theorem f_spec_l1Words.l0.ok : ∀ n p, (fun (p : List Int × Int × Bool × Int) => f_spec_l1Words.l0 n p.1 p.2.1 p.2.2.1 p.2.2.2) p = iterD (roundOf fs X112 6 112 2 false f_spec_l1Words.l0.c) n p :=
  iter_of (l := fun n => fun (p : List Int × Int × Bool × Int) => f_spec_l1Words.l0 n p.1 p.2.1 p.2.2.1 p.2.2.2) (fun _ => rfl) (fun n p => by kernel_rfl)
theorem E112 : ∀ x, funRun fs X112 6 112 C112 x = C112.fn x := fun x => by kernel_rfl
theorem B112 : ConB Try.prog 112 C112 := ConB.make FS MIX TY (cons := K112) (L := L112) (ptrs := Q112) ⟨S94, trivial⟩ trivial ⟨⟨⟨N, fun p => f_spec_l1Words.l0.ok N p⟩, trivial⟩, trivial⟩ rfl rfl E112
theorem S112 : ConS Try.prog 112 C112 := B112.call rfl
/-! spec.HartOk: function 104 -/
noncomputable def f_spec_HartOk (x0 : List Int) (x1 : Int) (x2 : Int) : Option (Bool) :=
  (f_spec_l1Words x0 4).bind fun y16 =>
  bif y16 then
    (f_spec_l1In x1 0 23).bind fun y17 =>
    bif y17 then
      (f_spec_l1In x2 0 2).bind fun y18 =>
      some y18
    else
      some false
  else
    some false
noncomputable def C104 : Con := ⟨[(.B, true, [(.sl R0), (.int .i64), (.int .i64)])], [(false, [.bool])], [(.sl R0), (.int .i64), (.int .i64)], [.bool], fun (p : List Int × Int × Int) => f_spec_HartOk p.1 p.2.1 p.2.2⟩
noncomputable abbrev K104 : Cons := [(94, C94), (112, C112)]
noncomputable abbrev L104 : List (Nat × Loops) := []
abbrev Q104 : List (Nat × List (Int × Nat) × Nat) := []
noncomputable abbrev X104 : Nat → Ctx := ctxOf tb K104 L104 Q104
theorem E104 : ∀ x, funRun fs X104 6 104 C104 x = C104.fn x := fun x => by kernel_rfl
theorem B104 : ConB Try.prog 104 C104 := ConB.make FS MIX TY (cons := K104) (L := L104) (ptrs := Q104) ⟨S94, S112, trivial⟩ trivial trivial rfl rfl E104
theorem S104 : ConS Try.prog 104 C104 := B104.call rfl
/-! spec.l9Copy: function 103 -/
noncomputable def f_spec_l9Copy (x0 : List Int) (x1 : Int) (x2 : Int) : Option (List Int × Int × Int) :=
  bif (Nat.blt (([] : List Int).length + x0.length) 17592186044416) then
  (some ((([] : List Int) ++ x0) : List Int)).bind fun z19 =>
  some (z19, x1, x2)
  else none
noncomputable def C103 : Con := ⟨[(.B, true, [(.sl R0), (.int .i64), (.int .i64)])], [(true, [(.sl R0), (.int .i64), (.int .i64)])], [(.sl R0), (.int .i64), (.int .i64)], [(.sl R0), (.int .i64), (.int .i64)], fun (p : List Int × Int × Int) => f_spec_l9Copy p.1 p.2.1 p.2.2⟩
noncomputable abbrev K103 : Cons := []
noncomputable abbrev L103 : List (Nat × Loops) := []
abbrev Q103 : List (Nat × List (Int × Nat) × Nat) := []
noncomputable abbrev X103 : Nat → Ctx := ctxOf tb K103 L103 Q103
theorem E103 : ∀ x, funRun fs X103 6 103 C103 x = C103.fn x := fun x => by kernel_rfl
theorem B103 : ConB Try.prog 103 C103 := ConB.make FS MIX TY (cons := K103) (L := L103) (ptrs := Q103) trivial trivial trivial rfl rfl E103
theorem S103 : ConS Try.prog 103 C103 := B103.call rfl
/-! spec.l8Has: function 129 -/
noncomputable def f_spec_l8Has (x0 : Int) : Option (Int) :=
  (f_spec_l1In x0 1 10).bind fun y20 =>
  bif (!y20) then
    some 0
  else
    bif ((decide ((0 : Int) ≤ x0)) && (decide (x0 < (([0, 9, 7, 11, 11, 14, 15, 10, 8, 0, 7] : List Int).length : Int)))) then
    some (([0, 9, 7, 11, 11, 14, 15, 10, 8, 0, 7] : List Int).getD x0.toNat 0)
    else none
noncomputable def C129 : Con := ⟨[(.B, false, [(.int .i64)])], [(false, [(.int .i64)])], [(.int .i64)], [(.int .i64)], fun (p : Int) => f_spec_l8Has p⟩
noncomputable abbrev K129 : Cons := [(94, C94)]
noncomputable abbrev L129 : List (Nat × Loops) := []
abbrev Q129 : List (Nat × List (Int × Nat) × Nat) := []
noncomputable abbrev X129 : Nat → Ctx := ctxOf tb K129 L129 Q129
theorem E129 : ∀ x, funRun fs X129 6 129 C129 x = C129.fn x := fun x => by kernel_rfl
theorem B129 : ConB Try.prog 129 C129 := ConB.make FS MIX TY (cons := K129) (L := L129) (ptrs := Q129) ⟨S94, trivial⟩ trivial trivial rfl rfl E129
theorem S129 : ConS Try.prog 129 C129 := B129.call rfl
/-! spec.l8Field: function 130 -/
noncomputable def f_spec_l8Field (x0 : Int) (x1 : Int) (x2 : Bool) : Option (Bool) :=
  (f_spec_l1In x0 0 x1).bind fun y21 =>
  bif y21 then
    bif x2 then
      some true
    else
      some (decide (x0 = (0 : Int)))
  else
    some false
noncomputable def C130 : Con := ⟨[(.B, false, [(.int .i64)]), (.B, false, [(.int .i64)]), (.B, false, [.bool])], [(false, [.bool])], [(.int .i64), (.int .i64), .bool], [.bool], fun (p : Int × Int × Bool) => f_spec_l8Field p.1 p.2.1 p.2.2⟩
noncomputable abbrev K130 : Cons := [(94, C94)]
noncomputable abbrev L130 : List (Nat × Loops) := []
abbrev Q130 : List (Nat × List (Int × Nat) × Nat) := []
noncomputable abbrev X130 : Nat → Ctx := ctxOf tb K130 L130 Q130
theorem E130 : ∀ x, funRun fs X130 6 130 C130 x = C130.fn x := fun x => by kernel_rfl
theorem B130 : ConB Try.prog 130 C130 := ConB.make FS MIX TY (cons := K130) (L := L130) (ptrs := Q130) ⟨S94, trivial⟩ trivial trivial rfl rfl E130
theorem S130 : ConS Try.prog 130 C130 := B130.call rfl
/-! spec.InsOk: function 82 -/
noncomputable def f_spec_InsOk (x0 : Int) (x1 : Int) (x2 : Int) (x3 : Int) (x4 : Int) : Option (Bool) :=
  (f_spec_l8Has x0).bind fun y22 =>
  (f_spec_l1In x0 1 10).bind fun y23 =>
  bif y23 then
    (f_spec_l8Field x1 3 (!(decide ((bitI .and .i64 y22 (1 : Int)) = (0 : Int))))).bind fun y24 =>
    bif y24 then
      (f_spec_l8Field x2 3 (!(decide ((bitI .and .i64 y22 (2 : Int)) = (0 : Int))))).bind fun y25 =>
      bif y25 then
        (f_spec_l8Field x3 3 (!(decide ((bitI .and .i64 y22 (4 : Int)) = (0 : Int))))).bind fun y26 =>
        bif y26 then
          (f_spec_l8Field x4 63 (!(decide ((bitI .and .i64 y22 (8 : Int)) = (0 : Int))))).bind fun y27 =>
          some y27
        else
          some false
      else
        some false
    else
      some false
  else
    some false
noncomputable def C82 : Con := ⟨[(.B, true, [(.int .i64), (.int .i64), (.int .i64), (.int .i64), (.int .i64)])], [(false, [.bool])], [(.int .i64), (.int .i64), (.int .i64), (.int .i64), (.int .i64)], [.bool], fun (p : Int × Int × Int × Int × Int) => f_spec_InsOk p.1 p.2.1 p.2.2.1 p.2.2.2.1 p.2.2.2.2⟩
noncomputable abbrev K82 : Cons := [(94, C94), (129, C129), (130, C130)]
noncomputable abbrev L82 : List (Nat × Loops) := []
abbrev Q82 : List (Nat × List (Int × Nat) × Nat) := []
noncomputable abbrev X82 : Nat → Ctx := ctxOf tb K82 L82 Q82
theorem E82 : ∀ x, funRun fs X82 6 82 C82 x = C82.fn x := fun x => by kernel_rfl
theorem B82 : ConB Try.prog 82 C82 := ConB.make FS MIX TY (cons := K82) (L := L82) (ptrs := Q82) ⟨S94, S129, S130, trivial⟩ trivial trivial rfl rfl E82
theorem S82 : ConS Try.prog 82 C82 := B82.call rfl
/-! spec.Decode: function 79 -/
noncomputable def f_spec_Decode (x0 : Int) : Option (Int × Int × Int × Int × Int × Bool) :=
  (f_spec_l1In x0 0 65535).bind fun y28 =>
  bif (!y28) then
    some (0, 0, 0, 0, 0, false)
  else
    (f_spec_InsOk (Int.tmod x0 (16 : Int)) (Int.tmod (IntKind.wrap .i64 (Int.tdiv x0 (16 : Int))) (4 : Int)) (Int.tmod (IntKind.wrap .i64 (Int.tdiv x0 (64 : Int))) (4 : Int)) (Int.tmod (IntKind.wrap .i64 (Int.tdiv x0 (256 : Int))) (4 : Int)) (IntKind.wrap .i64 (Int.tdiv x0 (1024 : Int)))).bind fun y29 =>
    bif (!y29) then
      some (0, 0, 0, 0, 0, false)
    else
      some ((Int.tmod x0 (16 : Int)), (Int.tmod (IntKind.wrap .i64 (Int.tdiv x0 (16 : Int))) (4 : Int)), (Int.tmod (IntKind.wrap .i64 (Int.tdiv x0 (64 : Int))) (4 : Int)), (Int.tmod (IntKind.wrap .i64 (Int.tdiv x0 (256 : Int))) (4 : Int)), (IntKind.wrap .i64 (Int.tdiv x0 (1024 : Int))), true)
noncomputable def C79 : Con := ⟨[(.B, false, [(.int .i64)])], [(true, [(.int .i64), (.int .i64), (.int .i64), (.int .i64), (.int .i64)]), (false, [.bool])], [(.int .i64)], [(.int .i64), (.int .i64), (.int .i64), (.int .i64), (.int .i64), .bool], fun (p : Int) => f_spec_Decode p⟩
noncomputable abbrev K79 : Cons := [(82, C82), (94, C94)]
noncomputable abbrev L79 : List (Nat × Loops) := []
abbrev Q79 : List (Nat × List (Int × Nat) × Nat) := []
noncomputable abbrev X79 : Nat → Ctx := ctxOf tb K79 L79 Q79
theorem E79 : ∀ x, funRun fs X79 6 79 C79 x = C79.fn x := fun x => by kernel_rfl
theorem B79 : ConB Try.prog 79 C79 := ConB.make FS MIX TY (cons := K79) (L := L79) (ptrs := Q79) ⟨S82, S94, trivial⟩ trivial trivial rfl rfl E79
theorem S79 : ConS Try.prog 79 C79 := B79.call rfl
/-! spec.l9Address: function 105 -/
noncomputable def f_spec_l9Address (x0 : Int) : Option (Int) :=
  bif (decide ((Int.tmod x0 (24 : Int)) < (0 : Int))) then
    some (IntKind.wrap .i64 ((Int.tmod x0 (24 : Int)) + (24 : Int)))
  else
    some (Int.tmod x0 (24 : Int))
noncomputable def C105 : Con := ⟨[(.B, false, [(.int .i64)])], [(false, [(.int .i64)])], [(.int .i64)], [(.int .i64)], fun (p : Int) => f_spec_l9Address p⟩
noncomputable abbrev K105 : Cons := []
noncomputable abbrev L105 : List (Nat × Loops) := []
abbrev Q105 : List (Nat × List (Int × Nat) × Nat) := []
noncomputable abbrev X105 : Nat → Ctx := ctxOf tb K105 L105 Q105
theorem E105 : ∀ x, funRun fs X105 6 105 C105 x = C105.fn x := fun x => by kernel_rfl
theorem B105 : ConB Try.prog 105 C105 := ConB.make FS MIX TY (cons := K105) (L := L105) (ptrs := Q105) trivial trivial trivial rfl rfl E105
theorem S105 : ConS Try.prog 105 C105 := B105.call rfl
/-! spec.Target: function 63 -/
noncomputable def f_spec_Target (x0 : Int) (x1 : Int) (x2 : Int) (x3 : Int) (x4 : Int) (x5 : List Int) : Option (Int) :=
  (f_spec_InsOk x0 x1 x2 x3 x4).bind fun y30 =>
  bif (!y30) then
    some (-1)
  else
    bif (!(decide ((x5.length : Int) = (4 : Int)))) then
      some (-1)
    else
      bif (!(decide (x0 = (4 : Int)))) then
        bif (!(decide (x0 = (5 : Int)))) then
          bif (!(decide (x0 = (6 : Int)))) then
            some (-1)
          else
            bif ((decide ((0 : Int) ≤ x2)) && (decide (x2 < (x5.length : Int)))) then
            (f_spec_l9Address (IntKind.wrap .i64 ((x5.getD x2.toNat 0) + x4))).bind fun y31 =>
            some y31
            else none
        else
          bif ((decide ((0 : Int) ≤ x2)) && (decide (x2 < (x5.length : Int)))) then
          (f_spec_l9Address (IntKind.wrap .i64 ((x5.getD x2.toNat 0) + x4))).bind fun y32 =>
          some y32
          else none
      else
        bif ((decide ((0 : Int) ≤ x2)) && (decide (x2 < (x5.length : Int)))) then
        (f_spec_l9Address (IntKind.wrap .i64 ((x5.getD x2.toNat 0) + x4))).bind fun y33 =>
        some y33
        else none
noncomputable def C63 : Con := ⟨[(.B, true, [(.int .i64), (.int .i64), (.int .i64), (.int .i64), (.int .i64)]), (.B, false, [(.sl R0)])], [(false, [(.int .i64)])], [(.int .i64), (.int .i64), (.int .i64), (.int .i64), (.int .i64), (.sl R0)], [(.int .i64)], fun (p : Int × Int × Int × Int × Int × List Int) => f_spec_Target p.1 p.2.1 p.2.2.1 p.2.2.2.1 p.2.2.2.2.1 p.2.2.2.2.2⟩
noncomputable abbrev K63 : Cons := [(82, C82), (105, C105)]
noncomputable abbrev L63 : List (Nat × Loops) := []
abbrev Q63 : List (Nat × List (Int × Nat) × Nat) := []
noncomputable abbrev X63 : Nat → Ctx := ctxOf tb K63 L63 Q63
theorem E63 : ∀ x, funRun fs X63 6 63 C63 x = C63.fn x := fun x => by kernel_rfl
theorem B63 : ConB Try.prog 63 C63 := ConB.make FS MIX TY (cons := K63) (L := L63) (ptrs := Q63) ⟨S82, S105, trivial⟩ trivial trivial rfl rfl E63
theorem S63 : ConS Try.prog 63 C63 := B63.call rfl
/-! spec.l9Word: function 106 -/
noncomputable def f_spec_l9Word (x0 : Int) : Option (Int) :=
  some (bitI .and .i64 x0 (65535 : Int))
noncomputable def C106 : Con := ⟨[(.B, false, [(.int .i64)])], [(false, [(.int .i64)])], [(.int .i64)], [(.int .i64)], fun (p : Int) => f_spec_l9Word p⟩
noncomputable abbrev K106 : Cons := []
noncomputable abbrev L106 : List (Nat × Loops) := []
abbrev Q106 : List (Nat × List (Int × Nat) × Nat) := []
noncomputable abbrev X106 : Nat → Ctx := ctxOf tb K106 L106 Q106
theorem E106 : ∀ x, funRun fs X106 6 106 C106 x = C106.fn x := fun x => by kernel_rfl
theorem B106 : ConB Try.prog 106 C106 := ConB.make FS MIX TY (cons := K106) (L := L106) (ptrs := Q106) trivial trivial trivial rfl rfl E106
theorem S106 : ConS Try.prog 106 C106 := B106.call rfl
/-! spec.Work: function 43 -/
noncomputable def f_spec_Work (x0 : List Int) (x1 : Int) (x2 : Int) (x3 : Int) (x4 : Int) (x5 : Int) (x6 : Int) (x7 : Int) (x8 : Int) : Option (List Int × Int × Int × Int) :=
  (f_spec_l9Copy x0 x1 x2).bind fun y34 =>
  (f_spec_HartOk x0 x1 x2).bind fun y35 =>
  bif (!y35) then
    some (y34.1, y34.2.1, y34.2.2, -1)
  else
    bif (!(decide (x2 = (0 : Int)))) then
      some (y34.1, y34.2.1, y34.2.2, -1)
    else
      (f_spec_l1In x8 0 65535).bind fun y36 =>
      bif (!y36) then
        some (y34.1, y34.2.1, y34.2.2, -1)
      else
        (f_spec_l9Address (IntKind.wrap .i64 (x1 + (1 : Int)))).bind fun y37 =>
        (f_spec_InsOk x3 x4 x5 x6 x7).bind fun y38 =>
        bif (!y38) then
          some (y34.1, x1, 2, -1)
        else
          bif ((decide ((0 : Int) ≤ x5)) && (decide (x5 < (x0.length : Int)))) then
          bif ((decide ((0 : Int) ≤ x6)) && (decide (x6 < (x0.length : Int)))) then
          bif (decide (x3 = (1 : Int))) then
            bif ((decide ((0 : Int) ≤ x4)) && (decide (x4 < (y34.1.length : Int)))) then
            (some ((y34.1.set x4.toNat x7) : List Int)).bind fun z39 =>
            some (z39, y37, y34.2.2, -1)
            else none
          else
            bif (decide (x3 = (2 : Int))) then
              (f_spec_l9Word (IntKind.wrap .i64 ((x0.getD x5.toNat 0) + (x0.getD x6.toNat 0)))).bind fun y40 =>
              bif ((decide ((0 : Int) ≤ x4)) && (decide (x4 < (y34.1.length : Int)))) then
              (some ((y34.1.set x4.toNat y40) : List Int)).bind fun z41 =>
              some (z41, y37, y34.2.2, -1)
              else none
            else
              bif (decide (x3 = (10 : Int))) then
                (f_spec_l9Word (IntKind.wrap .i64 ((x0.getD x5.toNat 0) - (x0.getD x6.toNat 0)))).bind fun y42 =>
                bif ((decide ((0 : Int) ≤ x4)) && (decide (x4 < (y34.1.length : Int)))) then
                (some ((y34.1.set x4.toNat y42) : List Int)).bind fun z43 =>
                some (z43, y37, y34.2.2, -1)
                else none
              else
                bif (decide (x3 = (3 : Int))) then
                  (f_spec_l9Word (IntKind.wrap .i64 ((x0.getD x5.toNat 0) + x7))).bind fun y44 =>
                  bif ((decide ((0 : Int) ≤ x4)) && (decide (x4 < (y34.1.length : Int)))) then
                  (some ((y34.1.set x4.toNat y44) : List Int)).bind fun z45 =>
                  some (z45, y37, y34.2.2, -1)
                  else none
                else
                  bif (decide (x3 = (4 : Int))) then
                    bif ((decide ((0 : Int) ≤ x4)) && (decide (x4 < (y34.1.length : Int)))) then
                    (some ((y34.1.set x4.toNat x8) : List Int)).bind fun z46 =>
                    some (z46, y37, y34.2.2, -1)
                    else none
                  else
                    bif (decide (x3 = (5 : Int))) then
                      some (y34.1, y37, y34.2.2, (x0.getD x6.toNat 0))
                    else
                      bif (decide (x3 = (6 : Int))) then
                        bif ((decide ((0 : Int) ≤ x4)) && (decide (x4 < (y34.1.length : Int)))) then
                        (some ((y34.1.set x4.toNat x8) : List Int)).bind fun z47 =>
                        (f_spec_l9Word (IntKind.wrap .i64 (x8 + (x0.getD x6.toNat 0)))).bind fun y48 =>
                        some (z47, y37, y34.2.2, y48)
                        else none
                      else
                        bif (decide (x3 = (7 : Int))) then
                          bif (decide ((x0.getD x5.toNat 0) = (0 : Int))) then
                            (f_spec_l9Address x7).bind fun y49 =>
                            some (y34.1, y49, y34.2.2, -1)
                          else
                            some (y34.1, y37, y34.2.2, -1)
                        else
                          bif (decide (x3 = (8 : Int))) then
                            (f_spec_l9Address x7).bind fun y50 =>
                            some (y34.1, y50, y34.2.2, -1)
                          else
                            bif (decide (x3 = (9 : Int))) then
                              some (y34.1, x1, 1, -1)
                            else
                              some (y34.1, y37, y34.2.2, -1)
          else none
          else none
noncomputable def C43 : Con := ⟨[(.B, true, [(.sl R0), (.int .i64), (.int .i64)]), (.B, true, [(.int .i64), (.int .i64), (.int .i64), (.int .i64), (.int .i64)]), (.B, false, [(.int .i64)])], [(true, [(.sl R0), (.int .i64), (.int .i64)]), (false, [(.int .i64)])], [(.sl R0), (.int .i64), (.int .i64), (.int .i64), (.int .i64), (.int .i64), (.int .i64), (.int .i64), (.int .i64)], [(.sl R0), (.int .i64), (.int .i64), (.int .i64)], fun (p : List Int × Int × Int × Int × Int × Int × Int × Int × Int) => f_spec_Work p.1 p.2.1 p.2.2.1 p.2.2.2.1 p.2.2.2.2.1 p.2.2.2.2.2.1 p.2.2.2.2.2.2.1 p.2.2.2.2.2.2.2.1 p.2.2.2.2.2.2.2.2⟩
noncomputable abbrev K43 : Cons := [(82, C82), (94, C94), (103, C103), (104, C104), (105, C105), (106, C106)]
noncomputable abbrev L43 : List (Nat × Loops) := []
abbrev Q43 : List (Nat × List (Int × Nat) × Nat) := []
noncomputable abbrev X43 : Nat → Ctx := ctxOf tb K43 L43 Q43
theorem E43 : ∀ x, funRun fs X43 6 43 C43 x = C43.fn x := fun x => by kernel_rfl
theorem B43 : ConB Try.prog 43 C43 := ConB.make FS MIX TY (cons := K43) (L := L43) (ptrs := Q43) ⟨S82, S94, S103, S104, S105, S106, trivial⟩ trivial trivial rfl rfl E43
theorem S43 : ConS Try.prog 43 C43 := B43.call rfl
/-! spec.FlatStep: function 50 -/
noncomputable def f_spec_FlatStep (x0 : List Int) (x1 : List Int) (x2 : Int) (x3 : Int) : Option (List Int × List Int × Int × Int) :=
  bif (Nat.blt (([] : List Int).length + x0.length) 17592186044416) then
  (some ((([] : List Int) ++ x0) : List Int)).bind fun z51 =>
  (f_spec_l1Words x0 24).bind fun y52 =>
  bif (!y52) then
    (f_spec_l9Copy x1 x2 x3).bind fun y53 =>
    some (z51, y53.1, y53.2.1, y53.2.2)
  else
    (f_spec_HartOk x1 x2 x3).bind fun y54 =>
    bif (!y54) then
      (f_spec_l9Copy x1 x2 x3).bind fun y55 =>
      some (z51, y55.1, y55.2.1, y55.2.2)
    else
      bif (!(decide (x3 = (0 : Int)))) then
        (f_spec_l9Copy x1 x2 x3).bind fun y56 =>
        some (z51, y56.1, y56.2.1, y56.2.2)
      else
        bif ((decide ((0 : Int) ≤ x2)) && (decide (x2 < (x0.length : Int)))) then
        (f_spec_Decode (x0.getD x2.toNat 0)).bind fun y57 =>
        (f_spec_Target y57.1 y57.2.1 y57.2.2.1 y57.2.2.2.1 y57.2.2.2.2.1 x1).bind fun y58 =>
        bif (decide ((0 : Int) ≤ y58)) then
          bif ((decide ((0 : Int) ≤ y58)) && (decide (y58 < (x0.length : Int)))) then
          (f_spec_Work x1 x2 x3 y57.1 y57.2.1 y57.2.2.1 y57.2.2.2.1 y57.2.2.2.2.1 (x0.getD y58.toNat 0)).bind fun y59 =>
          bif (decide ((0 : Int) ≤ y59.2.2.2)) then
            bif ((decide ((0 : Int) ≤ y58)) && (decide (y58 < (z51.length : Int)))) then
            (some ((z51.set y58.toNat y59.2.2.2) : List Int)).bind fun z60 =>
            some (z60, y59.1, y59.2.1, y59.2.2.1)
            else none
          else
            some (z51, y59.1, y59.2.1, y59.2.2.1)
          else none
        else
          (f_spec_Work x1 x2 x3 y57.1 y57.2.1 y57.2.2.1 y57.2.2.2.1 y57.2.2.2.2.1 0).bind fun y61 =>
          bif (decide ((0 : Int) ≤ y61.2.2.2)) then
            bif ((decide ((0 : Int) ≤ y58)) && (decide (y58 < (z51.length : Int)))) then
            (some ((z51.set y58.toNat y61.2.2.2) : List Int)).bind fun z62 =>
            some (z62, y61.1, y61.2.1, y61.2.2.1)
            else none
          else
            some (z51, y61.1, y61.2.1, y61.2.2.1)
        else none
  else none
noncomputable def C50 : Con := ⟨[(.B, false, [(.sl R0)]), (.B, true, [(.sl R0), (.int .i64), (.int .i64)])], [(false, [(.sl R0)]), (true, [(.sl R0), (.int .i64), (.int .i64)])], [(.sl R0), (.sl R0), (.int .i64), (.int .i64)], [(.sl R0), (.sl R0), (.int .i64), (.int .i64)], fun (p : List Int × List Int × Int × Int) => f_spec_FlatStep p.1 p.2.1 p.2.2.1 p.2.2.2⟩
noncomputable abbrev K50 : Cons := [(43, C43), (63, C63), (79, C79), (103, C103), (104, C104), (112, C112)]
noncomputable abbrev L50 : List (Nat × Loops) := []
abbrev Q50 : List (Nat × List (Int × Nat) × Nat) := []
noncomputable abbrev X50 : Nat → Ctx := ctxOf tb K50 L50 Q50
theorem E50 : ∀ x, funRun fs X50 6 50 C50 x = C50.fn x := fun x => by kernel_rfl
theorem B50 : ConB Try.prog 50 C50 := ConB.make FS MIX TY (cons := K50) (L := L50) (ptrs := Q50) ⟨S43, S63, S79, S103, S104, S112, trivial⟩ trivial trivial rfl rfl E50
theorem S50 : ConS Try.prog 50 C50 := B50.call rfl
/-! slices.Clone[[]int,int]: function 101 -/
noncomputable def f_slices_Clone_int_int (x0 : List Int) : Option (List Int) := bif Nat.blt (0 + x0.length) 17592186044416 then some x0 else none
noncomputable def C101 : Con := ⟨[(.B, false, [(.sl R0)])], [(false, [(.sl R0)])], [(.sl R0)], [(.sl R0)], f_slices_Clone_int_int⟩
noncomputable abbrev X101 : Nat → Ctx := ctxOf tb [] [] []
theorem E101 : ∀ x : List R0.den, bodyRun fs X101 6 101 C101 [] [] [.bor (some 1000) R0 x] [] = f_slices_Clone_int_int x := fun x => by kernel_rfl
theorem Z101 : bodyRun fs X101 6 101 C101 [] [] [.nil (some R0)] [] = f_slices_Clone_int_int ([] : List R0.den) := by kernel_rfl
theorem B101 : ConB Try.prog 101 C101 := ConB.copy FS MIX TY (cons := []) (L := []) (ptrs := []) trivial trivial trivial rfl E101 Z101
theorem S101 : ConS Try.prog 101 C101 := B101.call rfl
/-! impl.from: function 118 -/
noncomputable def f_impl_from (x0 : Int) (x1 : Int) (x2 : Int) : Option (Bool) :=
  bif (decide (x1 ≤ x0)) then
    some (decide (x0 ≤ x2))
  else
    some false
noncomputable def C118 : Con := ⟨[(.B, false, [(.int .i64)]), (.B, false, [(.int .i64)]), (.B, false, [(.int .i64)])], [(false, [.bool])], [(.int .i64), (.int .i64), (.int .i64)], [.bool], fun (p : Int × Int × Int) => f_impl_from p.1 p.2.1 p.2.2⟩
noncomputable abbrev K118 : Cons := []
noncomputable abbrev L118 : List (Nat × Loops) := []
abbrev Q118 : List (Nat × List (Int × Nat) × Nat) := []
noncomputable abbrev X118 : Nat → Ctx := ctxOf tb K118 L118 Q118
theorem E118 : ∀ x, funRun fs X118 6 118 C118 x = C118.fn x := fun x => by kernel_rfl
theorem B118 : ConB Try.prog 118 C118 := ConB.make FS MIX TY (cons := K118) (L := L118) (ptrs := Q118) trivial trivial trivial rfl rfl E118
theorem S118 : ConS Try.prog 118 C118 := B118.call rfl
/-! impl.isWord: function 109 -/
noncomputable def f_impl_isWord (x0 : Int) : Option (Bool) :=
  (f_impl_from x0 0 65535).bind fun y63 =>
  some y63
noncomputable def C109 : Con := ⟨[(.B, false, [(.int .i64)])], [(false, [.bool])], [(.int .i64)], [.bool], fun (p : Int) => f_impl_isWord p⟩
noncomputable abbrev K109 : Cons := [(118, C118)]
noncomputable abbrev L109 : List (Nat × Loops) := []
abbrev Q109 : List (Nat × List (Int × Nat) × Nat) := []
noncomputable abbrev X109 : Nat → Ctx := ctxOf tb K109 L109 Q109
theorem E109 : ∀ x, funRun fs X109 6 109 C109 x = C109.fn x := fun x => by kernel_rfl
theorem B109 : ConB Try.prog 109 C109 := ConB.make FS MIX TY (cons := K109) (L := L109) (ptrs := Q109) ⟨S118, trivial⟩ trivial trivial rfl rfl E109
theorem S109 : ConS Try.prog 109 C109 := B109.call rfl
/-! impl.wordsOk$1: function 163 -/
noncomputable def f_impl_wordsOk_1 (x0 : Int) : Option (Bool) :=
  (f_impl_isWord x0).bind fun y64 =>
  some (!y64)
noncomputable def C163 : Con := ⟨[(.B, false, [(.int .i64)])], [(false, [.bool])], [(.int .i64)], [.bool], fun (p : Int) => f_impl_wordsOk_1 p⟩
noncomputable abbrev K163 : Cons := [(109, C109)]
noncomputable abbrev L163 : List (Nat × Loops) := []
abbrev Q163 : List (Nat × List (Int × Nat) × Nat) := []
noncomputable abbrev X163 : Nat → Ctx := ctxOf tb K163 L163 Q163
theorem E163 : ∀ x, funRun fs X163 6 163 C163 x = C163.fn x := fun x => by kernel_rfl
theorem B163 : ConB Try.prog 163 C163 := ConB.make FS MIX TY (cons := K163) (L := L163) (ptrs := Q163) ⟨S109, trivial⟩ trivial trivial rfl rfl E163
theorem S163 : ConS Try.prog 163 C163 := B163.call rfl
/-! impl.wordsOk: function 125 -/
noncomputable def f_impl_wordsOk.l0 : Nat → (List Int) → Int → Int → Int → Option ((Int) ⊕ (Int))
  | 0, _, _, _, _ => none
  | n + 1, p65, p66, p67, p68 =>
    bif (decide (p68 < p67)) then
      bif ((decide ((0 : Int) ≤ p68)) && (decide (p68 < (p65.length : Int)))) then
      (f_impl_wordsOk_1 (p65.getD p68.toNat 0)).bind fun y69 =>
      bif y69 then
        some (.inl p68)
      else
        f_impl_wordsOk.l0 n p65 p66 p67 (IntKind.wrap .i64 (p68 + (1 : Int)))
      else none
    else
      some (.inr p66)
noncomputable def f_impl_wordsOk (x0 : List Int) (x1 : Int) : Option (Bool) :=
  bif (decide ((x0.length : Int) = x1)) then
    (f_impl_wordsOk.l0 N x0 0 (x0.length : Int) 0).bind fun r70 =>
    cs r70 (fun a71 =>
      some (!(decide ((0 : Int) ≤ a71)))) (fun b72 =>
      some true)
  else
    some false
noncomputable def C125 : Con := ⟨[(.B, false, [(.sl R0)]), (.B, false, [(.int .i64)])], [(false, [.bool])], [(.sl R0), (.int .i64)], [.bool], fun (p : List Int × Int) => f_impl_wordsOk p.1 p.2⟩
noncomputable def f_impl_wordsOk.l0.c : LoopCon := ⟨1274, 4, [0, 1, 4, 7, 8], ⟨[(0, .bor none R0 []), (1, .func 163 []), (4, .int .i64 0), (7, .int .i64 0), (8, .int .i64 0)], [], 1274⟩, [(.sl R0), (.int .i64), (.int .i64), (.int .i64)], [⟨.ret, [4], ⟨[(4, .int .i64 0)], [], 1274⟩, [(.int .i64)]⟩, ⟨.exit 0, [4], ⟨[(4, .int .i64 0)], [], 1274⟩, [(.int .i64)]⟩], fun (p : List Int × Int × Int × Int) => f_impl_wordsOk.l0 N p.1 p.2.1 p.2.2.1 p.2.2.2⟩
noncomputable abbrev K125 : Cons := [(163, C163)]
noncomputable abbrev L125 : List (Nat × Loops) := [(181, [(2, f_impl_wordsOk.l0.c)])]
abbrev Q125 : List (Nat × List (Int × Nat) × Nat) := []
noncomputable abbrev X125 : Nat → Ctx := ctxOf tb K125 L125 Q125
theorem f_impl_wordsOk.l0.ok : ∀ n p, (fun (p : List Int × Int × Int × Int) => f_impl_wordsOk.l0 n p.1 p.2.1 p.2.2.1 p.2.2.2) p = iterD (roundOf fs X125 4 181 2 true f_impl_wordsOk.l0.c) n p :=
  iter_of (l := fun n => fun (p : List Int × Int × Int × Int) => f_impl_wordsOk.l0 n p.1 p.2.1 p.2.2.1 p.2.2.2) (fun _ => rfl) (fun n p => by kernel_rfl)
theorem E125 : ∀ x, funRun fs X125 6 125 C125 x = C125.fn x := fun x => by kernel_rfl
theorem B125 : ConB Try.prog 125 C125 := ConB.make FS MIX TY (cons := K125) (L := L125) (ptrs := Q125) ⟨S163, trivial⟩ trivial ⟨⟨⟨N, fun p => f_impl_wordsOk.l0.ok N p⟩, trivial⟩, trivial⟩ rfl rfl E125
theorem S125 : ConS Try.prog 125 C125 := B125.call rfl
/-! impl.memOk: function 113 -/
noncomputable def f_impl_memOk (x0 : List Int) : Option (Bool) :=
  (f_impl_wordsOk x0 24).bind fun y73 =>
  some y73
noncomputable def C113 : Con := ⟨[(.B, false, [(.sl R0)])], [(false, [.bool])], [(.sl R0)], [.bool], fun (p : List Int) => f_impl_memOk p⟩
noncomputable abbrev K113 : Cons := [(125, C125)]
noncomputable abbrev L113 : List (Nat × Loops) := []
abbrev Q113 : List (Nat × List (Int × Nat) × Nat) := []
noncomputable abbrev X113 : Nat → Ctx := ctxOf tb K113 L113 Q113
theorem E113 : ∀ x, funRun fs X113 6 113 C113 x = C113.fn x := fun x => by kernel_rfl
theorem B113 : ConB Try.prog 113 C113 := ConB.make FS MIX TY (cons := K113) (L := L113) (ptrs := Q113) ⟨S125, trivial⟩ trivial trivial rfl rfl E113
theorem S113 : ConS Try.prog 113 C113 := B113.call rfl
/-! impl.isCell: function 95 -/
noncomputable def f_impl_isCell (x0 : Int) : Option (Bool) :=
  (f_impl_from x0 0 23).bind fun y74 =>
  some y74
noncomputable def C95 : Con := ⟨[(.B, false, [(.int .i64)])], [(false, [.bool])], [(.int .i64)], [.bool], fun (p : Int) => f_impl_isCell p⟩
noncomputable abbrev K95 : Cons := [(118, C118)]
noncomputable abbrev L95 : List (Nat × Loops) := []
abbrev Q95 : List (Nat × List (Int × Nat) × Nat) := []
noncomputable abbrev X95 : Nat → Ctx := ctxOf tb K95 L95 Q95
theorem E95 : ∀ x, funRun fs X95 6 95 C95 x = C95.fn x := fun x => by kernel_rfl
theorem B95 : ConB Try.prog 95 C95 := ConB.make FS MIX TY (cons := K95) (L := L95) (ptrs := Q95) ⟨S118, trivial⟩ trivial trivial rfl rfl E95
theorem S95 : ConS Try.prog 95 C95 := B95.call rfl
/-! impl.HartOk: function 108 -/
noncomputable def f_impl_HartOk (x0 : List Int) (x1 : Int) (x2 : Int) : Option (Bool) :=
  (f_impl_wordsOk x0 4).bind fun y75 =>
  bif y75 then
    (f_impl_isCell x1).bind fun y76 =>
    bif y76 then
      (f_impl_from x2 0 2).bind fun y77 =>
      some y77
    else
      some false
  else
    some false
noncomputable def C108 : Con := ⟨[(.B, true, [(.sl R0), (.int .i64), (.int .i64)])], [(false, [.bool])], [(.sl R0), (.int .i64), (.int .i64)], [.bool], fun (p : List Int × Int × Int) => f_impl_HartOk p.1 p.2.1 p.2.2⟩
noncomputable abbrev K108 : Cons := [(95, C95), (118, C118), (125, C125)]
noncomputable abbrev L108 : List (Nat × Loops) := []
abbrev Q108 : List (Nat × List (Int × Nat) × Nat) := []
noncomputable abbrev X108 : Nat → Ctx := ctxOf tb K108 L108 Q108
theorem E108 : ∀ x, funRun fs X108 6 108 C108 x = C108.fn x := fun x => by kernel_rfl
theorem B108 : ConB Try.prog 108 C108 := ConB.make FS MIX TY (cons := K108) (L := L108) (ptrs := Q108) ⟨S95, S118, S125, trivial⟩ trivial trivial rfl rfl E108
theorem S108 : ConS Try.prog 108 C108 := B108.call rfl
/-! impl.goes: function 114 -/
noncomputable def f_impl_goes (x0 : List Int) (x1 : Int) (x2 : Int) : Option (Bool) :=
  (f_impl_HartOk x0 x1 x2).bind fun y78 =>
  bif y78 then
    some (decide (x2 = (0 : Int)))
  else
    some false
noncomputable def C114 : Con := ⟨[(.B, true, [(.sl R0), (.int .i64), (.int .i64)])], [(false, [.bool])], [(.sl R0), (.int .i64), (.int .i64)], [.bool], fun (p : List Int × Int × Int) => f_impl_goes p.1 p.2.1 p.2.2⟩
noncomputable abbrev K114 : Cons := [(108, C108)]
noncomputable abbrev L114 : List (Nat × Loops) := []
abbrev Q114 : List (Nat × List (Int × Nat) × Nat) := []
noncomputable abbrev X114 : Nat → Ctx := ctxOf tb K114 L114 Q114
theorem E114 : ∀ x, funRun fs X114 6 114 C114 x = C114.fn x := fun x => by kernel_rfl
theorem B114 : ConB Try.prog 114 C114 := ConB.make FS MIX TY (cons := K114) (L := L114) (ptrs := Q114) ⟨S108, trivial⟩ trivial trivial rfl rfl E114
theorem S114 : ConS Try.prog 114 C114 := B114.call rfl
/-! impl.copyHart: function 107 -/
noncomputable def f_impl_copyHart (x0 : List Int) (x1 : Int) (x2 : Int) : Option (List Int × Int × Int) :=
  (f_slices_Clone_int_int x0).bind fun y79 =>
  some (y79, x1, x2)
noncomputable def C107 : Con := ⟨[(.B, true, [(.sl R0), (.int .i64), (.int .i64)])], [(true, [(.sl R0), (.int .i64), (.int .i64)])], [(.sl R0), (.int .i64), (.int .i64)], [(.sl R0), (.int .i64), (.int .i64)], fun (p : List Int × Int × Int) => f_impl_copyHart p.1 p.2.1 p.2.2⟩
noncomputable abbrev K107 : Cons := [(101, C101)]
noncomputable abbrev L107 : List (Nat × Loops) := []
abbrev Q107 : List (Nat × List (Int × Nat) × Nat) := []
noncomputable abbrev X107 : Nat → Ctx := ctxOf tb K107 L107 Q107
theorem E107 : ∀ x, funRun fs X107 6 107 C107 x = C107.fn x := fun x => by kernel_rfl
theorem B107 : ConB Try.prog 107 C107 := ConB.make FS MIX TY (cons := K107) (L := L107) (ptrs := Q107) ⟨S101, trivial⟩ trivial trivial rfl rfl E107
theorem S107 : ConS Try.prog 107 C107 := B107.call rfl
/-! impl.form: function 126 -/
noncomputable def f_impl_form (x0 : Int) : Option (ByteArray × Bool) :=
  bif (decide (x0 = (1 : Int))) then
    some ((⟨#[82, 78]⟩ : ByteArray), true)
  else
    bif (decide (x0 = (2 : Int))) then
      some ((⟨#[82, 65, 66]⟩ : ByteArray), true)
    else
      bif (decide (x0 = (10 : Int))) then
        some ((⟨#[82, 65, 66]⟩ : ByteArray), true)
      else
        bif (decide (x0 = (3 : Int))) then
          some ((⟨#[82, 65, 78]⟩ : ByteArray), true)
        else
          bif (decide (x0 = (4 : Int))) then
            some ((⟨#[82, 65, 78]⟩ : ByteArray), true)
          else
            bif (decide (x0 = (5 : Int))) then
              some ((⟨#[65, 66, 78]⟩ : ByteArray), true)
            else
              bif (decide (x0 = (6 : Int))) then
                some ((⟨#[82, 65, 66, 78]⟩ : ByteArray), true)
              else
                bif (decide (x0 = (7 : Int))) then
                  some ((⟨#[65, 78]⟩ : ByteArray), true)
                else
                  bif (decide (x0 = (8 : Int))) then
                    some ((⟨#[78]⟩ : ByteArray), true)
                  else
                    bif (decide (x0 = (9 : Int))) then
                      some ((⟨#[]⟩ : ByteArray), true)
                    else
                      some ((⟨#[]⟩ : ByteArray), false)
noncomputable def C126 : Con := ⟨[(.B, false, [(.int .i64)])], [(false, [.str]), (false, [.bool])], [(.int .i64)], [.str, .bool], fun (p : Int) => f_impl_form p⟩
noncomputable abbrev K126 : Cons := []
noncomputable abbrev L126 : List (Nat × Loops) := []
abbrev Q126 : List (Nat × List (Int × Nat) × Nat) := []
noncomputable abbrev X126 : Nat → Ctx := ctxOf tb K126 L126 Q126
theorem E126 : ∀ x, funRun fs X126 6 126 C126 x = C126.fn x := fun x => by kernel_rfl
theorem B126 : ConB Try.prog 126 C126 := ConB.make FS MIX TY (cons := K126) (L := L126) (ptrs := Q126) trivial trivial trivial rfl rfl E126
theorem S126 : ConS Try.prog 126 C126 := B126.call rfl
/-! impl.InsOk: function 76 -/
noncomputable def f_impl_InsOk.l0 : Nat → Bool → ByteArray → Bool → Int → Int → Int → Int → Int → Int → Int → Int → Int → Int → Int → Int → Option (Bool × Bool × Int × Int × Int × Int × Int × Int × Int × Int × Int × Int)
  | 0, _, _, _, _, _, _, _, _, _, _, _, _, _, _, _ => none
  | n + 1, p81, p82, p83, p84, p85, p86, p87, p88, p89, p90, p91, p92, p93, p94, p95 =>
    bif (decide (p85 < p84)) then
      bif ((decide ((0 : Int) ≤ p85)) && (decide (p85 < (p82.size : Int)))) then
      bif (decide (((p82.data.getD p85.toNat 0).toNat : Int) = (82 : Int))) then
        bif ((decide ((0 : Int) ≤ p85)) && (decide (p85 < (p82.size : Int)))) then
        bif (decide (((p82.data.getD p85.toNat 0).toNat : Int) = (82 : Int))) then
          f_impl_InsOk.l0 n p81 p82 p83 p84 (IntKind.wrap .i64 (p85 + (1 : Int))) p86 p87 p88 p89 p90 p91 p87 p93 p94 p95
        else
          bif (decide (((p82.data.getD p85.toNat 0).toNat : Int) = (65 : Int))) then
            f_impl_InsOk.l0 n p81 p82 p83 p84 (IntKind.wrap .i64 (p85 + (1 : Int))) p86 p87 p88 p89 p90 p91 p88 p93 p94 p95
          else
            bif (decide (((p82.data.getD p85.toNat 0).toNat : Int) = (66 : Int))) then
              f_impl_InsOk.l0 n p81 p82 p83 p84 (IntKind.wrap .i64 (p85 + (1 : Int))) p86 p87 p88 p89 p90 p91 p89 p93 p94 p95
            else
              f_impl_InsOk.l0 n p81 p82 p83 p84 (IntKind.wrap .i64 (p85 + (1 : Int))) p86 p87 p88 p89 p90 p91 p90 p93 p94 p95
        else none
      else
        bif (decide (((p82.data.getD p85.toNat 0).toNat : Int) = (65 : Int))) then
          bif ((decide ((0 : Int) ≤ p85)) && (decide (p85 < (p82.size : Int)))) then
          bif (decide (((p82.data.getD p85.toNat 0).toNat : Int) = (82 : Int))) then
            f_impl_InsOk.l0 n p81 p82 p83 p84 (IntKind.wrap .i64 (p85 + (1 : Int))) p86 p87 p88 p89 p90 p91 p92 p87 p94 p95
          else
            bif (decide (((p82.data.getD p85.toNat 0).toNat : Int) = (65 : Int))) then
              f_impl_InsOk.l0 n p81 p82 p83 p84 (IntKind.wrap .i64 (p85 + (1 : Int))) p86 p87 p88 p89 p90 p91 p92 p88 p94 p95
            else
              bif (decide (((p82.data.getD p85.toNat 0).toNat : Int) = (66 : Int))) then
                f_impl_InsOk.l0 n p81 p82 p83 p84 (IntKind.wrap .i64 (p85 + (1 : Int))) p86 p87 p88 p89 p90 p91 p92 p89 p94 p95
              else
                f_impl_InsOk.l0 n p81 p82 p83 p84 (IntKind.wrap .i64 (p85 + (1 : Int))) p86 p87 p88 p89 p90 p91 p92 p90 p94 p95
          else none
        else
          bif (decide (((p82.data.getD p85.toNat 0).toNat : Int) = (66 : Int))) then
            bif ((decide ((0 : Int) ≤ p85)) && (decide (p85 < (p82.size : Int)))) then
            bif (decide (((p82.data.getD p85.toNat 0).toNat : Int) = (82 : Int))) then
              f_impl_InsOk.l0 n p81 p82 p83 p84 (IntKind.wrap .i64 (p85 + (1 : Int))) p86 p87 p88 p89 p90 p91 p92 p93 p87 p95
            else
              bif (decide (((p82.data.getD p85.toNat 0).toNat : Int) = (65 : Int))) then
                f_impl_InsOk.l0 n p81 p82 p83 p84 (IntKind.wrap .i64 (p85 + (1 : Int))) p86 p87 p88 p89 p90 p91 p92 p93 p88 p95
              else
                bif (decide (((p82.data.getD p85.toNat 0).toNat : Int) = (66 : Int))) then
                  f_impl_InsOk.l0 n p81 p82 p83 p84 (IntKind.wrap .i64 (p85 + (1 : Int))) p86 p87 p88 p89 p90 p91 p92 p93 p89 p95
                else
                  f_impl_InsOk.l0 n p81 p82 p83 p84 (IntKind.wrap .i64 (p85 + (1 : Int))) p86 p87 p88 p89 p90 p91 p92 p93 p90 p95
            else none
          else
            bif ((decide ((0 : Int) ≤ p85)) && (decide (p85 < (p82.size : Int)))) then
            bif (decide (((p82.data.getD p85.toNat 0).toNat : Int) = (82 : Int))) then
              f_impl_InsOk.l0 n p81 p82 p83 p84 (IntKind.wrap .i64 (p85 + (1 : Int))) p86 p87 p88 p89 p90 p91 p92 p93 p94 p87
            else
              bif (decide (((p82.data.getD p85.toNat 0).toNat : Int) = (65 : Int))) then
                f_impl_InsOk.l0 n p81 p82 p83 p84 (IntKind.wrap .i64 (p85 + (1 : Int))) p86 p87 p88 p89 p90 p91 p92 p93 p94 p88
              else
                bif (decide (((p82.data.getD p85.toNat 0).toNat : Int) = (66 : Int))) then
                  f_impl_InsOk.l0 n p81 p82 p83 p84 (IntKind.wrap .i64 (p85 + (1 : Int))) p86 p87 p88 p89 p90 p91 p92 p93 p94 p89
                else
                  f_impl_InsOk.l0 n p81 p82 p83 p84 (IntKind.wrap .i64 (p85 + (1 : Int))) p86 p87 p88 p89 p90 p91 p92 p93 p94 p90
            else none
      else none
    else
      some (p81, p83, p86, p87, p88, p89, p90, p91, p92, p93, p94, p95)
noncomputable def f_impl_InsOk (x0 : Int) (x1 : Int) (x2 : Int) (x3 : Int) (x4 : Int) : Option (Bool) :=
  (f_impl_form x0).bind fun y80 =>
  (f_impl_InsOk.l0 N false y80.1 y80.2 (y80.1.size : Int) 0 x0 x1 x2 x3 x4 x0 0 0 0 0).bind fun r96 =>
  bif r96.2.1 then
    bif ((decide (r96.2.2.2.2.2.2.2.1 = r96.2.2.1)) && ((decide (r96.2.2.2.2.2.2.2.2.1 = r96.2.2.2.1)) && ((decide (r96.2.2.2.2.2.2.2.2.2.1 = r96.2.2.2.2.1)) && ((decide (r96.2.2.2.2.2.2.2.2.2.2.1 = r96.2.2.2.2.2.1)) && (decide (r96.2.2.2.2.2.2.2.2.2.2.2 = r96.2.2.2.2.2.2.1)))))) then
      (f_impl_from r96.2.2.2.1 0 3).bind fun y97 =>
      bif y97 then
        (f_impl_from r96.2.2.2.2.1 0 3).bind fun y98 =>
        bif y98 then
          (f_impl_from r96.2.2.2.2.2.1 0 3).bind fun y99 =>
          bif y99 then
            (f_impl_from r96.2.2.2.2.2.2.1 0 63).bind fun y100 =>
            some y100
          else
            some false
        else
          some false
      else
        some false
    else
      some false
  else
    some false
noncomputable def C76 : Con := ⟨[(.B, true, [(.int .i64), (.int .i64), (.int .i64), (.int .i64), (.int .i64)])], [(false, [.bool])], [(.int .i64), (.int .i64), (.int .i64), (.int .i64), (.int .i64)], [.bool], fun (p : Int × Int × Int × Int × Int) => f_impl_InsOk p.1 p.2.1 p.2.2.1 p.2.2.2.1 p.2.2.2.2⟩
noncomputable def f_impl_InsOk.l0.c : LoopCon := ⟨1000, 6, [1, 2, 3, 4, 5, 17, 18], ⟨[(1, .ptr 1000 0), (2, .bool false), (3, .str ⟨#[]⟩), (4, .bool false), (5, .ptr 1001 0), (17, .int .i64 0), (18, .int .i64 0)], [(1000, .box [.int .i64 0, .int .i64 0, .int .i64 0, .int .i64 0, .int .i64 0]), (1001, .box [.int .i64 0, .int .i64 0, .int .i64 0, .int .i64 0, .int .i64 0])], 1002⟩, [.bool, .str, .bool, (.int .i64), (.int .i64), (.int .i64), (.int .i64), (.int .i64), (.int .i64), (.int .i64), (.int .i64), (.int .i64), (.int .i64), (.int .i64), (.int .i64)], [⟨.exit 0, [1, 2, 4, 5], ⟨[(1, .ptr 1000 0), (2, .bool false), (4, .bool false), (5, .ptr 1001 0)], [(1000, .box [.int .i64 0, .int .i64 0, .int .i64 0, .int .i64 0, .int .i64 0]), (1001, .box [.int .i64 0, .int .i64 0, .int .i64 0, .int .i64 0, .int .i64 0])], 1002⟩, [.bool, .bool, (.int .i64), (.int .i64), (.int .i64), (.int .i64), (.int .i64), (.int .i64), (.int .i64), (.int .i64), (.int .i64), (.int .i64)]⟩], fun (p : Bool × ByteArray × Bool × Int × Int × Int × Int × Int × Int × Int × Int × Int × Int × Int × Int) => f_impl_InsOk.l0 N p.1 p.2.1 p.2.2.1 p.2.2.2.1 p.2.2.2.2.1 p.2.2.2.2.2.1 p.2.2.2.2.2.2.1 p.2.2.2.2.2.2.2.1 p.2.2.2.2.2.2.2.2.1 p.2.2.2.2.2.2.2.2.2.1 p.2.2.2.2.2.2.2.2.2.2.1 p.2.2.2.2.2.2.2.2.2.2.2.1 p.2.2.2.2.2.2.2.2.2.2.2.2.1 p.2.2.2.2.2.2.2.2.2.2.2.2.2.1 p.2.2.2.2.2.2.2.2.2.2.2.2.2.2⟩
noncomputable abbrev K76 : Cons := [(118, C118), (126, C126)]
noncomputable abbrev L76 : List (Nat × Loops) := [(76, [(4, f_impl_InsOk.l0.c)])]
abbrev Q76 : List (Nat × List (Int × Nat) × Nat) := [(127, [(82, 1), (65, 2), (66, 3)], 4)]
noncomputable abbrev X76 : Nat → Ctx := ctxOf tb K76 L76 Q76
theorem f_impl_InsOk.l0.ok : ∀ n p, (fun (p : Bool × ByteArray × Bool × Int × Int × Int × Int × Int × Int × Int × Int × Int × Int × Int × Int) => f_impl_InsOk.l0 n p.1 p.2.1 p.2.2.1 p.2.2.2.1 p.2.2.2.2.1 p.2.2.2.2.2.1 p.2.2.2.2.2.2.1 p.2.2.2.2.2.2.2.1 p.2.2.2.2.2.2.2.2.1 p.2.2.2.2.2.2.2.2.2.1 p.2.2.2.2.2.2.2.2.2.2.1 p.2.2.2.2.2.2.2.2.2.2.2.1 p.2.2.2.2.2.2.2.2.2.2.2.2.1 p.2.2.2.2.2.2.2.2.2.2.2.2.2.1 p.2.2.2.2.2.2.2.2.2.2.2.2.2.2) p = iterD (roundOf fs X76 6 76 4 false f_impl_InsOk.l0.c) n p :=
  iter_of (l := fun n => fun (p : Bool × ByteArray × Bool × Int × Int × Int × Int × Int × Int × Int × Int × Int × Int × Int × Int) => f_impl_InsOk.l0 n p.1 p.2.1 p.2.2.1 p.2.2.2.1 p.2.2.2.2.1 p.2.2.2.2.2.1 p.2.2.2.2.2.2.1 p.2.2.2.2.2.2.2.1 p.2.2.2.2.2.2.2.2.1 p.2.2.2.2.2.2.2.2.2.1 p.2.2.2.2.2.2.2.2.2.2.1 p.2.2.2.2.2.2.2.2.2.2.2.1 p.2.2.2.2.2.2.2.2.2.2.2.2.1 p.2.2.2.2.2.2.2.2.2.2.2.2.2.1 p.2.2.2.2.2.2.2.2.2.2.2.2.2.2) (fun _ => rfl) (fun n p => by kernel_rfl)
theorem E76 : ∀ x, funRun fs X76 6 76 C76 x = C76.fn x := fun x => by kernel_rfl
theorem B76 : ConB Try.prog 76 C76 := ConB.make FS MIX TY (cons := K76) (L := L76) (ptrs := Q76) ⟨S118, S126, trivial⟩ ⟨PT127, trivial⟩ ⟨⟨⟨N, fun p => f_impl_InsOk.l0.ok N p⟩, trivial⟩, trivial⟩ rfl rfl E76
theorem S76 : ConS Try.prog 76 C76 := B76.call rfl
/-! impl.Decode: function 77 -/
noncomputable def f_impl_Decode (x0 : Int) : Option (Int × Int × Int × Int × Int × Bool) :=
  (f_impl_isWord x0).bind fun y101 =>
  bif (!y101) then
    some (0, 0, 0, 0, 0, false)
  else
    (f_impl_InsOk (Int.tmod x0 (16 : Int)) (Int.tmod (IntKind.wrap .i64 (Int.tdiv x0 (16 : Int))) (4 : Int)) (Int.tmod (IntKind.wrap .i64 (Int.tdiv x0 (64 : Int))) (4 : Int)) (Int.tmod (IntKind.wrap .i64 (Int.tdiv x0 (256 : Int))) (4 : Int)) (IntKind.wrap .i64 (Int.tdiv x0 (1024 : Int)))).bind fun y102 =>
    bif (!y102) then
      some (0, 0, 0, 0, 0, false)
    else
      some ((Int.tmod x0 (16 : Int)), (Int.tmod (IntKind.wrap .i64 (Int.tdiv x0 (16 : Int))) (4 : Int)), (Int.tmod (IntKind.wrap .i64 (Int.tdiv x0 (64 : Int))) (4 : Int)), (Int.tmod (IntKind.wrap .i64 (Int.tdiv x0 (256 : Int))) (4 : Int)), (IntKind.wrap .i64 (Int.tdiv x0 (1024 : Int))), true)
noncomputable def C77 : Con := ⟨[(.B, false, [(.int .i64)])], [(true, [(.int .i64), (.int .i64), (.int .i64), (.int .i64), (.int .i64)]), (false, [.bool])], [(.int .i64)], [(.int .i64), (.int .i64), (.int .i64), (.int .i64), (.int .i64), .bool], fun (p : Int) => f_impl_Decode p⟩
noncomputable abbrev K77 : Cons := [(76, C76), (109, C109)]
noncomputable abbrev L77 : List (Nat × Loops) := []
abbrev Q77 : List (Nat × List (Int × Nat) × Nat) := []
noncomputable abbrev X77 : Nat → Ctx := ctxOf tb K77 L77 Q77
theorem E77 : ∀ x, funRun fs X77 6 77 C77 x = C77.fn x := fun x => by kernel_rfl
theorem B77 : ConB Try.prog 77 C77 := ConB.make FS MIX TY (cons := K77) (L := L77) (ptrs := Q77) ⟨S76, S109, trivial⟩ trivial trivial rfl rfl E77
theorem S77 : ConS Try.prog 77 C77 := B77.call rfl
/-! impl.aims: function 123 -/
noncomputable def f_impl_aims (x0 : Int) (x1 : Int) (x2 : Int) (x3 : Int) (x4 : Int) : Option (Bool) :=
  bif (decide (x0 = (4 : Int))) then
    some true
  else
    bif (decide (x0 = (5 : Int))) then
      some true
    else
      some (decide (x0 = (6 : Int)))
noncomputable def C123 : Con := ⟨[(.B, true, [(.int .i64), (.int .i64), (.int .i64), (.int .i64), (.int .i64)])], [(false, [.bool])], [(.int .i64), (.int .i64), (.int .i64), (.int .i64), (.int .i64)], [.bool], fun (p : Int × Int × Int × Int × Int) => f_impl_aims p.1 p.2.1 p.2.2.1 p.2.2.2.1 p.2.2.2.2⟩
noncomputable abbrev K123 : Cons := []
noncomputable abbrev L123 : List (Nat × Loops) := []
abbrev Q123 : List (Nat × List (Int × Nat) × Nat) := []
noncomputable abbrev X123 : Nat → Ctx := ctxOf tb K123 L123 Q123
theorem E123 : ∀ x, funRun fs X123 6 123 C123 x = C123.fn x := fun x => by kernel_rfl
theorem B123 : ConB Try.prog 123 C123 := ConB.make FS MIX TY (cons := K123) (L := L123) (ptrs := Q123) trivial trivial trivial rfl rfl E123
theorem S123 : ConS Try.prog 123 C123 := B123.call rfl
/-! impl.address: function 110 -/
noncomputable def f_impl_address (x0 : Int) : Option (Int) :=
  some (Int.tmod (IntKind.wrap .i64 ((Int.tmod x0 (24 : Int)) + (24 : Int))) (24 : Int))
noncomputable def C110 : Con := ⟨[(.B, false, [(.int .i64)])], [(false, [(.int .i64)])], [(.int .i64)], [(.int .i64)], fun (p : Int) => f_impl_address p⟩
noncomputable abbrev K110 : Cons := []
noncomputable abbrev L110 : List (Nat × Loops) := []
abbrev Q110 : List (Nat × List (Int × Nat) × Nat) := []
noncomputable abbrev X110 : Nat → Ctx := ctxOf tb K110 L110 Q110
theorem E110 : ∀ x, funRun fs X110 6 110 C110 x = C110.fn x := fun x => by kernel_rfl
theorem B110 : ConB Try.prog 110 C110 := ConB.make FS MIX TY (cons := K110) (L := L110) (ptrs := Q110) trivial trivial trivial rfl rfl E110
theorem S110 : ConS Try.prog 110 C110 := B110.call rfl
/-! impl.Target: function 62 -/
noncomputable def f_impl_Target (x0 : Int) (x1 : Int) (x2 : Int) (x3 : Int) (x4 : Int) (x5 : List Int) : Option (Int) :=
  (f_impl_InsOk x0 x1 x2 x3 x4).bind fun y103 =>
  bif (!y103) then
    some (-1)
  else
    (f_impl_aims x0 x1 x2 x3 x4).bind fun y104 =>
    bif (!y104) then
      some (-1)
    else
      bif (!(decide ((x5.length : Int) = (4 : Int)))) then
        some (-1)
      else
        bif ((decide ((0 : Int) ≤ x2)) && (decide (x2 < (x5.length : Int)))) then
        (f_impl_address (IntKind.wrap .i64 ((x5.getD x2.toNat 0) + x4))).bind fun y105 =>
        some y105
        else none
noncomputable def C62 : Con := ⟨[(.B, true, [(.int .i64), (.int .i64), (.int .i64), (.int .i64), (.int .i64)]), (.B, false, [(.sl R0)])], [(false, [(.int .i64)])], [(.int .i64), (.int .i64), (.int .i64), (.int .i64), (.int .i64), (.sl R0)], [(.int .i64)], fun (p : Int × Int × Int × Int × Int × List Int) => f_impl_Target p.1 p.2.1 p.2.2.1 p.2.2.2.1 p.2.2.2.2.1 p.2.2.2.2.2⟩
noncomputable abbrev K62 : Cons := [(76, C76), (110, C110), (123, C123)]
noncomputable abbrev L62 : List (Nat × Loops) := []
abbrev Q62 : List (Nat × List (Int × Nat) × Nat) := []
noncomputable abbrev X62 : Nat → Ctx := ctxOf tb K62 L62 Q62
theorem E62 : ∀ x, funRun fs X62 6 62 C62 x = C62.fn x := fun x => by kernel_rfl
theorem B62 : ConB Try.prog 62 C62 := ConB.make FS MIX TY (cons := K62) (L := L62) (ptrs := Q62) ⟨S76, S110, S123, trivial⟩ trivial trivial rfl rfl E62
theorem S62 : ConS Try.prog 62 C62 := B62.call rfl
/-! impl.wrapped: function 111 -/
noncomputable def f_impl_wrapped (x0 : Int) : Option (Int) :=
  some (Int.tmod (IntKind.wrap .i64 ((IntKind.wrap .i64 ((Int.tmod x0 (65536 : Int)) + (65535 : Int))) + (1 : Int))) (65536 : Int))
noncomputable def C111 : Con := ⟨[(.B, false, [(.int .i64)])], [(false, [(.int .i64)])], [(.int .i64)], [(.int .i64)], fun (p : Int) => f_impl_wrapped p⟩
noncomputable abbrev K111 : Cons := []
noncomputable abbrev L111 : List (Nat × Loops) := []
abbrev Q111 : List (Nat × List (Int × Nat) × Nat) := []
noncomputable abbrev X111 : Nat → Ctx := ctxOf tb K111 L111 Q111
theorem E111 : ∀ x, funRun fs X111 6 111 C111 x = C111.fn x := fun x => by kernel_rfl
theorem B111 : ConB Try.prog 111 C111 := ConB.make FS MIX TY (cons := K111) (L := L111) (ptrs := Q111) trivial trivial trivial rfl rfl E111
theorem S111 : ConS Try.prog 111 C111 := B111.call rfl
/-! impl.Work: function 46 -/
noncomputable def f_impl_Work (x0 : List Int) (x1 : Int) (x2 : Int) (x3 : Int) (x4 : Int) (x5 : Int) (x6 : Int) (x7 : Int) (x8 : Int) : Option (List Int × Int × Int × Int) :=
  (f_impl_copyHart x0 x1 x2).bind fun y106 =>
  (f_impl_HartOk y106.1 y106.2.1 y106.2.2).bind fun y107 =>
  bif (!y107) then
    some (y106.1, y106.2.1, y106.2.2, -1)
  else
    bif (!(decide (y106.2.2 = (0 : Int)))) then
      some (y106.1, y106.2.1, y106.2.2, -1)
    else
      (f_impl_isWord x8).bind fun y108 =>
      bif (!y108) then
        some (y106.1, y106.2.1, y106.2.2, -1)
      else
        (f_impl_InsOk x3 x4 x5 x6 x7).bind fun y109 =>
        bif (!y109) then
          some (y106.1, y106.2.1, 2, -1)
        else
          bif ((decide ((0 : Int) ≤ x5)) && (decide (x5 < (y106.1.length : Int)))) then
          bif ((decide ((0 : Int) ≤ x6)) && (decide (x6 < (y106.1.length : Int)))) then
          (f_impl_address (IntKind.wrap .i64 (y106.2.1 + (1 : Int)))).bind fun y110 =>
          bif (decide (x3 = (1 : Int))) then
            bif ((decide ((0 : Int) ≤ x4)) && (decide (x4 < (y106.1.length : Int)))) then
            (some ((y106.1.set x4.toNat x7) : List Int)).bind fun z111 =>
            some (z111, y110, y106.2.2, -1)
            else none
          else
            bif (decide (x3 = (2 : Int))) then
              (f_impl_wrapped (IntKind.wrap .i64 ((y106.1.getD x5.toNat 0) + (y106.1.getD x6.toNat 0)))).bind fun y112 =>
              bif ((decide ((0 : Int) ≤ x4)) && (decide (x4 < (y106.1.length : Int)))) then
              (some ((y106.1.set x4.toNat y112) : List Int)).bind fun z113 =>
              some (z113, y110, y106.2.2, -1)
              else none
            else
              bif (decide (x3 = (10 : Int))) then
                (f_impl_wrapped (IntKind.wrap .i64 ((y106.1.getD x5.toNat 0) - (y106.1.getD x6.toNat 0)))).bind fun y114 =>
                bif ((decide ((0 : Int) ≤ x4)) && (decide (x4 < (y106.1.length : Int)))) then
                (some ((y106.1.set x4.toNat y114) : List Int)).bind fun z115 =>
                some (z115, y110, y106.2.2, -1)
                else none
              else
                bif (decide (x3 = (3 : Int))) then
                  (f_impl_wrapped (IntKind.wrap .i64 ((y106.1.getD x5.toNat 0) + x7))).bind fun y116 =>
                  bif ((decide ((0 : Int) ≤ x4)) && (decide (x4 < (y106.1.length : Int)))) then
                  (some ((y106.1.set x4.toNat y116) : List Int)).bind fun z117 =>
                  some (z117, y110, y106.2.2, -1)
                  else none
                else
                  bif (decide (x3 = (4 : Int))) then
                    bif ((decide ((0 : Int) ≤ x4)) && (decide (x4 < (y106.1.length : Int)))) then
                    (some ((y106.1.set x4.toNat x8) : List Int)).bind fun z118 =>
                    some (z118, y110, y106.2.2, -1)
                    else none
                  else
                    bif (decide (x3 = (5 : Int))) then
                      some (y106.1, y110, y106.2.2, (y106.1.getD x6.toNat 0))
                    else
                      bif (decide (x3 = (6 : Int))) then
                        bif ((decide ((0 : Int) ≤ x4)) && (decide (x4 < (y106.1.length : Int)))) then
                        (some ((y106.1.set x4.toNat x8) : List Int)).bind fun z119 =>
                        (f_impl_wrapped (IntKind.wrap .i64 (x8 + (y106.1.getD x6.toNat 0)))).bind fun y120 =>
                        some (z119, y110, y106.2.2, y120)
                        else none
                      else
                        bif (decide (x3 = (7 : Int))) then
                          bif (decide ((y106.1.getD x5.toNat 0) = (0 : Int))) then
                            (f_impl_address x7).bind fun y121 =>
                            some (y106.1, y121, y106.2.2, -1)
                          else
                            some (y106.1, y110, y106.2.2, -1)
                        else
                          bif (decide (x3 = (8 : Int))) then
                            (f_impl_address x7).bind fun y122 =>
                            some (y106.1, y122, y106.2.2, -1)
                          else
                            bif (decide (x3 = (9 : Int))) then
                              some (y106.1, y106.2.1, 1, -1)
                            else
                              some (y106.1, y110, y106.2.2, -1)
          else none
          else none
noncomputable def C46 : Con := ⟨[(.B, true, [(.sl R0), (.int .i64), (.int .i64)]), (.B, true, [(.int .i64), (.int .i64), (.int .i64), (.int .i64), (.int .i64)]), (.B, false, [(.int .i64)])], [(true, [(.sl R0), (.int .i64), (.int .i64)]), (false, [(.int .i64)])], [(.sl R0), (.int .i64), (.int .i64), (.int .i64), (.int .i64), (.int .i64), (.int .i64), (.int .i64), (.int .i64)], [(.sl R0), (.int .i64), (.int .i64), (.int .i64)], fun (p : List Int × Int × Int × Int × Int × Int × Int × Int × Int) => f_impl_Work p.1 p.2.1 p.2.2.1 p.2.2.2.1 p.2.2.2.2.1 p.2.2.2.2.2.1 p.2.2.2.2.2.2.1 p.2.2.2.2.2.2.2.1 p.2.2.2.2.2.2.2.2⟩
noncomputable abbrev K46 : Cons := [(76, C76), (107, C107), (108, C108), (109, C109), (110, C110), (111, C111)]
noncomputable abbrev L46 : List (Nat × Loops) := []
abbrev Q46 : List (Nat × List (Int × Nat) × Nat) := []
noncomputable abbrev X46 : Nat → Ctx := ctxOf tb K46 L46 Q46
theorem E46 : ∀ x, funRun fs X46 6 46 C46 x = C46.fn x := fun x => by kernel_rfl
theorem B46 : ConB Try.prog 46 C46 := ConB.make FS MIX TY (cons := K46) (L := L46) (ptrs := Q46) ⟨S76, S107, S108, S109, S110, S111, trivial⟩ trivial trivial rfl rfl E46
theorem S46 : ConS Try.prog 46 C46 := B46.call rfl
/-! impl.step: function 115 -/
noncomputable def f_impl_step (x0 : List Int) (x1 : List Int) (x2 : Int) (x3 : Int) : Option (List Int × Int × Int × List Int) :=
  bif ((decide ((0 : Int) ≤ x2)) && (decide (x2 < (x0.length : Int)))) then
  (f_impl_Decode (x0.getD x2.toNat 0)).bind fun y123 =>
  (f_impl_Target y123.1 y123.2.1 y123.2.2.1 y123.2.2.2.1 y123.2.2.2.2.1 x1).bind fun y124 =>
  bif (decide ((0 : Int) ≤ y124)) then
    bif ((decide ((0 : Int) ≤ y124)) && (decide (y124 < (x0.length : Int)))) then
    (f_impl_Work x1 x2 x3 y123.1 y123.2.1 y123.2.2.1 y123.2.2.2.1 y123.2.2.2.2.1 (x0.getD y124.toNat 0)).bind fun y125 =>
    bif (decide ((0 : Int) ≤ y125.2.2.2)) then
      bif ((decide ((0 : Int) ≤ y124)) && (decide (y124 < (x0.length : Int)))) then
      (some ((x0.set y124.toNat y125.2.2.2) : List Int)).bind fun z126 =>
      some (y125.1, y125.2.1, y125.2.2.1, z126)
      else none
    else
      some (y125.1, y125.2.1, y125.2.2.1, x0)
    else none
  else
    (f_impl_Work x1 x2 x3 y123.1 y123.2.1 y123.2.2.1 y123.2.2.2.1 y123.2.2.2.2.1 0).bind fun y127 =>
    bif (decide ((0 : Int) ≤ y127.2.2.2)) then
      bif ((decide ((0 : Int) ≤ y124)) && (decide (y124 < (x0.length : Int)))) then
      (some ((x0.set y124.toNat y127.2.2.2) : List Int)).bind fun z128 =>
      some (y127.1, y127.2.1, y127.2.2.1, z128)
      else none
    else
      some (y127.1, y127.2.1, y127.2.2.1, x0)
  else none
noncomputable def C115 : Con := ⟨[(.I, false, [(.sl R0)]), (.B, true, [(.sl R0), (.int .i64), (.int .i64)])], [(true, [(.sl R0), (.int .i64), (.int .i64)])], [(.sl R0), (.sl R0), (.int .i64), (.int .i64)], [(.sl R0), (.int .i64), (.int .i64), (.sl R0)], fun (p : List Int × List Int × Int × Int) => f_impl_step p.1 p.2.1 p.2.2.1 p.2.2.2⟩
noncomputable abbrev K115 : Cons := [(46, C46), (62, C62), (77, C77)]
noncomputable abbrev L115 : List (Nat × Loops) := []
abbrev Q115 : List (Nat × List (Int × Nat) × Nat) := []
noncomputable abbrev X115 : Nat → Ctx := ctxOf tb K115 L115 Q115
theorem E115 : ∀ x, funG fs X115 6 115 C115 x = C115.fn x := fun x => by kernel_rfl
theorem B115 : ConG Try.prog 115 C115 := ConG.make FS MIX TY (cons := K115) (L := L115) (ptrs := Q115) ⟨S46, S62, S77, trivial⟩ trivial trivial rfl (by kernel_rfl) E115
theorem S115 : ConS Try.prog 115 C115 := B115.call (by kernel_rfl)
/-! impl.FlatStep: function 51 -/
noncomputable def f_impl_FlatStep (x0 : List Int) (x1 : List Int) (x2 : Int) (x3 : Int) : Option (List Int × List Int × Int × Int) :=
  (f_slices_Clone_int_int x0).bind fun y129 =>
  (f_impl_memOk y129).bind fun y130 =>
  bif (!y130) then
    (f_impl_copyHart x1 x2 x3).bind fun y131 =>
    some (y129, y131.1, y131.2.1, y131.2.2)
  else
    (f_impl_goes x1 x2 x3).bind fun y132 =>
    bif (!y132) then
      (f_impl_copyHart x1 x2 x3).bind fun y133 =>
      some (y129, y133.1, y133.2.1, y133.2.2)
    else
      (f_impl_step y129 x1 x2 x3).bind fun y134 =>
      (some (y134.2.2.2 : List Int)).bind fun z135 =>
      some (z135, y134.1, y134.2.1, y134.2.2.1)
noncomputable def C51 : Con := ⟨[(.B, false, [(.sl R0)]), (.B, true, [(.sl R0), (.int .i64), (.int .i64)])], [(false, [(.sl R0)]), (true, [(.sl R0), (.int .i64), (.int .i64)])], [(.sl R0), (.sl R0), (.int .i64), (.int .i64)], [(.sl R0), (.sl R0), (.int .i64), (.int .i64)], fun (p : List Int × List Int × Int × Int) => f_impl_FlatStep p.1 p.2.1 p.2.2.1 p.2.2.2⟩
noncomputable abbrev K51 : Cons := [(101, C101), (107, C107), (113, C113), (114, C114), (115, C115)]
noncomputable abbrev L51 : List (Nat × Loops) := []
abbrev Q51 : List (Nat × List (Int × Nat) × Nat) := []
noncomputable abbrev X51 : Nat → Ctx := ctxOf tb K51 L51 Q51
theorem E51 : ∀ x, funRun fs X51 6 51 C51 x = C51.fn x := fun x => by kernel_rfl
theorem B51 : ConB Try.prog 51 C51 := ConB.make FS MIX TY (cons := K51) (L := L51) (ptrs := Q51) ⟨S101, S107, S113, S114, S115, trivial⟩ trivial trivial rfl rfl E51
theorem S51 : ConS Try.prog 51 C51 := B51.call rfl
/-! laws.eqIntS: function 27 -/
noncomputable def f_laws_eqIntS.l0 : Nat → (List Int) → (List Int) → Bool → Int → Option ((Bool) ⊕ (Bool))
  | 0, _, _, _, _ => none
  | n + 1, p136, p137, p138, p139 =>
    bif (decide (p139 < (p136.length : Int))) then
      bif ((decide ((0 : Int) ≤ p139)) && (decide (p139 < (p136.length : Int)))) then
      bif ((decide ((0 : Int) ≤ p139)) && (decide (p139 < (p137.length : Int)))) then
      bif (!(decide ((p136.getD p139.toNat 0) = (p137.getD p139.toNat 0)))) then
        some (.inl false)
      else
        f_laws_eqIntS.l0 n p136 p137 p138 (IntKind.wrap .i64 (p139 + (1 : Int)))
      else none
      else none
    else
      some (.inr p138)
noncomputable def f_laws_eqIntS (x0 : List Int) (x1 : List Int) : Option (Bool) :=
  bif (!(decide ((x0.length : Int) = (x1.length : Int)))) then
    some false
  else
    (f_laws_eqIntS.l0 N x0 x1 false 0).bind fun r140 =>
    cs r140 (fun a141 =>
      some a141) (fun b142 =>
      some true)
noncomputable def C27 : Con := ⟨[(.B, false, [(.sl R0)]), (.B, false, [(.sl R0)])], [(false, [.bool])], [(.sl R0), (.sl R0)], [.bool], fun (p : List Int × List Int) => f_laws_eqIntS p.1 p.2⟩
noncomputable def f_laws_eqIntS.l0.c : LoopCon := ⟨1000, 6, [0, 1, 4, 5], ⟨[(0, .bor none R0 []), (1, .bor none R0 []), (4, .bool false), (5, .int .i64 0)], [], 1000⟩, [(.sl R0), (.sl R0), .bool, (.int .i64)], [⟨.ret, [4], ⟨[(4, .bool false)], [], 1000⟩, [.bool]⟩, ⟨.exit 0, [4], ⟨[(4, .bool false)], [], 1000⟩, [.bool]⟩], fun (p : List Int × List Int × Bool × Int) => f_laws_eqIntS.l0 N p.1 p.2.1 p.2.2.1 p.2.2.2⟩
noncomputable abbrev K27 : Cons := []
noncomputable abbrev L27 : List (Nat × Loops) := [(27, [(4, f_laws_eqIntS.l0.c)])]
abbrev Q27 : List (Nat × List (Int × Nat) × Nat) := []
noncomputable abbrev X27 : Nat → Ctx := ctxOf tb K27 L27 Q27
theorem f_laws_eqIntS.l0.ok : ∀ n p, (fun (p : List Int × List Int × Bool × Int) => f_laws_eqIntS.l0 n p.1 p.2.1 p.2.2.1 p.2.2.2) p = iterD (roundOf fs X27 6 27 4 false f_laws_eqIntS.l0.c) n p :=
  iter_of (l := fun n => fun (p : List Int × List Int × Bool × Int) => f_laws_eqIntS.l0 n p.1 p.2.1 p.2.2.1 p.2.2.2) (fun _ => rfl) (fun n p => by kernel_rfl)
theorem E27 : ∀ x, funRun fs X27 6 27 C27 x = C27.fn x := fun x => by kernel_rfl
theorem B27 : ConB Try.prog 27 C27 := ConB.make FS MIX TY (cons := K27) (L := L27) (ptrs := Q27) trivial trivial ⟨⟨⟨N, fun p => f_laws_eqIntS.l0.ok N p⟩, trivial⟩, trivial⟩ rfl rfl E27
theorem S27 : ConS Try.prog 27 C27 := B27.call rfl
/-! laws.eqHart: function 47 -/
noncomputable def f_laws_eqHart (x0 : List Int) (x1 : Int) (x2 : Int) (x3 : List Int) (x4 : Int) (x5 : Int) : Option (Bool) :=
  (f_laws_eqIntS x0 x3).bind fun y143 =>
  bif (!y143) then
    some false
  else
    bif (!(decide (x1 = x4))) then
      some false
    else
      bif (!(decide (x2 = x5))) then
        some false
      else
        some true
noncomputable def C47 : Con := ⟨[(.B, true, [(.sl R0), (.int .i64), (.int .i64)]), (.B, true, [(.sl R0), (.int .i64), (.int .i64)])], [(false, [.bool])], [(.sl R0), (.int .i64), (.int .i64), (.sl R0), (.int .i64), (.int .i64)], [.bool], fun (p : List Int × Int × Int × List Int × Int × Int) => f_laws_eqHart p.1 p.2.1 p.2.2.1 p.2.2.2.1 p.2.2.2.2.1 p.2.2.2.2.2⟩
noncomputable abbrev K47 : Cons := [(27, C27)]
noncomputable abbrev L47 : List (Nat × Loops) := []
abbrev Q47 : List (Nat × List (Int × Nat) × Nat) := []
noncomputable abbrev X47 : Nat → Ctx := ctxOf tb K47 L47 Q47
theorem E47 : ∀ x, funRun fs X47 6 47 C47 x = C47.fn x := fun x => by kernel_rfl
theorem B47 : ConB Try.prog 47 C47 := ConB.make FS MIX TY (cons := K47) (L := L47) (ptrs := Q47) ⟨S27, trivial⟩ trivial trivial rfl rfl E47
theorem S47 : ConS Try.prog 47 C47 := B47.call rfl
/-! laws.markIntS: function 28 -/
noncomputable def f_laws_markIntS.l0 : Nat → Int → Int → Int → (List Int) → Option (Int × Int × List Int)
  | 0, _, _, _, _ => none
  | n + 1, p144, p145, p146, p147 =>
    bif (decide (p146 < (p147.length : Int))) then
      bif ((decide ((0 : Int) ≤ p146)) && (decide (p146 < (p147.length : Int)))) then
      (some ((p147.set p146.toNat p144) : List Int)).bind fun z148 =>
      f_laws_markIntS.l0 n (IntKind.wrap .i64 (p144 + (1 : Int))) p145 (IntKind.wrap .i64 (p146 + (1 : Int))) z148
      else none
    else
      some (p144, p145, p147)
noncomputable def f_laws_markIntS (x0 : List Int) (x1 : Int) : Option (Int × List Int) :=
  (f_laws_markIntS.l0 N x1 0 0 x0).bind fun r149 =>
  some (r149.1, r149.2.2)
noncomputable def C28 : Con := ⟨[(.I, false, [(.sl R0)]), (.B, false, [(.int .i64)])], [(false, [(.int .i64)])], [(.sl R0), (.int .i64)], [(.int .i64), (.sl R0)], fun (p : List Int × Int) => f_laws_markIntS p.1 p.2⟩
noncomputable def f_laws_markIntS.l0.c : LoopCon := ⟨1000, 6, [0, 1, 4, 5], ⟨[(0, .ref 0 [] none), (1, .int .i64 0), (4, .int .i64 0), (5, .int .i64 0)], [(0, .row R0 [])], 1000⟩, [(.int .i64), (.int .i64), (.int .i64), (.sl R0)], [⟨.exit 0, [1, 4], ⟨[(1, .int .i64 0), (4, .int .i64 0)], [(0, .row R0 [])], 1000⟩, [(.int .i64), (.int .i64), (.sl R0)]⟩], fun (p : Int × Int × Int × List Int) => f_laws_markIntS.l0 N p.1 p.2.1 p.2.2.1 p.2.2.2⟩
noncomputable abbrev K28 : Cons := []
noncomputable abbrev L28 : List (Nat × Loops) := [(28, [(2, f_laws_markIntS.l0.c)])]
abbrev Q28 : List (Nat × List (Int × Nat) × Nat) := []
noncomputable abbrev X28 : Nat → Ctx := ctxOf tb K28 L28 Q28
theorem f_laws_markIntS.l0.ok : ∀ n p, (fun (p : Int × Int × Int × List Int) => f_laws_markIntS.l0 n p.1 p.2.1 p.2.2.1 p.2.2.2) p = iterD (roundOf fs X28 6 28 2 false f_laws_markIntS.l0.c) n p :=
  iter_of (l := fun n => fun (p : Int × Int × Int × List Int) => f_laws_markIntS.l0 n p.1 p.2.1 p.2.2.1 p.2.2.2) (fun _ => rfl) (fun n p => by kernel_rfl)
theorem E28 : ∀ x, funG fs X28 6 28 C28 x = C28.fn x := fun x => by kernel_rfl
theorem B28 : ConG Try.prog 28 C28 := ConG.make FS MIX TY (cons := K28) (L := L28) (ptrs := Q28) trivial trivial ⟨⟨⟨N, fun p => f_laws_markIntS.l0.ok N p⟩, trivial⟩, trivial⟩ rfl (by kernel_rfl) E28
theorem S28 : ConS Try.prog 28 C28 := B28.call (by kernel_rfl)
/-! laws.markHart: function 48 -/
noncomputable def f_laws_markHart (x0 : List Int) (x1 : Int) (x2 : Int) (x3 : Int) : Option (Int × List Int) :=
  (f_laws_markIntS x0 x3).bind fun y150 =>
  (some (y150.2 : List Int)).bind fun z151 =>
  some (y150.1, z151)
noncomputable def C48 : Con := ⟨[(.I, true, [(.sl R0), (.int .i64), (.int .i64)]), (.B, false, [(.int .i64)])], [(false, [(.int .i64)])], [(.sl R0), (.int .i64), (.int .i64), (.int .i64)], [(.int .i64), (.sl R0)], fun (p : List Int × Int × Int × Int) => f_laws_markHart p.1 p.2.1 p.2.2.1 p.2.2.2⟩
noncomputable abbrev K48 : Cons := [(28, C28)]
noncomputable abbrev L48 : List (Nat × Loops) := []
abbrev Q48 : List (Nat × List (Int × Nat) × Nat) := []
noncomputable abbrev X48 : Nat → Ctx := ctxOf tb K48 L48 Q48
theorem E48 : ∀ x, funG fs X48 6 48 C48 x = C48.fn x := fun x => by kernel_rfl
theorem B48 : ConG Try.prog 48 C48 := ConG.make FS MIX TY (cons := K48) (L := L48) (ptrs := Q48) ⟨S28, trivial⟩ trivial trivial rfl (by kernel_rfl) E48
theorem S48 : ConS Try.prog 48 C48 := B48.call (by kernel_rfl)
/-! laws.heldIntS: function 52 -/
noncomputable def f_laws_heldIntS.l0 : Nat → (List Int) → Int → Int → Int → Option ((Int) ⊕ (Int × Int))
  | 0, _, _, _, _ => none
  | n + 1, p152, p153, p154, p155 =>
    bif (decide (p155 < (p152.length : Int))) then
      bif ((decide ((0 : Int) ≤ p155)) && (decide (p155 < (p152.length : Int)))) then
      bif (!(decide ((p152.getD p155.toNat 0) = p153))) then
        some (.inl (-1))
      else
        f_laws_heldIntS.l0 n p152 (IntKind.wrap .i64 (p153 + (1 : Int))) p154 (IntKind.wrap .i64 (p155 + (1 : Int)))
      else none
    else
      some (.inr (p153, p154))
noncomputable def f_laws_heldIntS (x0 : List Int) (x1 : Int) : Option (Int) :=
  (f_laws_heldIntS.l0 N x0 x1 0 0).bind fun r156 =>
  cs r156 (fun a157 =>
    some a157) (fun b158 =>
    some b158.1)
noncomputable def C52 : Con := ⟨[(.B, false, [(.sl R0)]), (.B, false, [(.int .i64)])], [(false, [(.int .i64)])], [(.sl R0), (.int .i64)], [(.int .i64)], fun (p : List Int × Int) => f_laws_heldIntS p.1 p.2⟩
noncomputable def f_laws_heldIntS.l0.c : LoopCon := ⟨1000, 6, [0, 1, 4, 5], ⟨[(0, .bor none R0 []), (1, .int .i64 0), (4, .int .i64 0), (5, .int .i64 0)], [], 1000⟩, [(.sl R0), (.int .i64), (.int .i64), (.int .i64)], [⟨.ret, [4], ⟨[(4, .int .i64 0)], [], 1000⟩, [(.int .i64)]⟩, ⟨.exit 0, [1, 4], ⟨[(1, .int .i64 0), (4, .int .i64 0)], [], 1000⟩, [(.int .i64), (.int .i64)]⟩], fun (p : List Int × Int × Int × Int) => f_laws_heldIntS.l0 N p.1 p.2.1 p.2.2.1 p.2.2.2⟩
noncomputable abbrev K52 : Cons := []
noncomputable abbrev L52 : List (Nat × Loops) := [(52, [(2, f_laws_heldIntS.l0.c)])]
abbrev Q52 : List (Nat × List (Int × Nat) × Nat) := []
noncomputable abbrev X52 : Nat → Ctx := ctxOf tb K52 L52 Q52
theorem f_laws_heldIntS.l0.ok : ∀ n p, (fun (p : List Int × Int × Int × Int) => f_laws_heldIntS.l0 n p.1 p.2.1 p.2.2.1 p.2.2.2) p = iterD (roundOf fs X52 6 52 2 false f_laws_heldIntS.l0.c) n p :=
  iter_of (l := fun n => fun (p : List Int × Int × Int × Int) => f_laws_heldIntS.l0 n p.1 p.2.1 p.2.2.1 p.2.2.2) (fun _ => rfl) (fun n p => by kernel_rfl)
theorem E52 : ∀ x, funRun fs X52 6 52 C52 x = C52.fn x := fun x => by kernel_rfl
theorem B52 : ConB Try.prog 52 C52 := ConB.make FS MIX TY (cons := K52) (L := L52) (ptrs := Q52) trivial trivial ⟨⟨⟨N, fun p => f_laws_heldIntS.l0.ok N p⟩, trivial⟩, trivial⟩ rfl rfl E52
theorem S52 : ConS Try.prog 52 C52 := B52.call rfl
/-! laws.heldHart: function 49 -/
noncomputable def f_laws_heldHart (x0 : List Int) (x1 : Int) (x2 : Int) (x3 : Int) : Option (Int) :=
  (f_laws_heldIntS x0 x3).bind fun y159 =>
  bif (decide (y159 < (0 : Int))) then
    some (-1)
  else
    some y159
noncomputable def C49 : Con := ⟨[(.B, true, [(.sl R0), (.int .i64), (.int .i64)]), (.B, false, [(.int .i64)])], [(false, [(.int .i64)])], [(.sl R0), (.int .i64), (.int .i64), (.int .i64)], [(.int .i64)], fun (p : List Int × Int × Int × Int) => f_laws_heldHart p.1 p.2.1 p.2.2.1 p.2.2.2⟩
noncomputable abbrev K49 : Cons := [(52, C52)]
noncomputable abbrev L49 : List (Nat × Loops) := []
abbrev Q49 : List (Nat × List (Int × Nat) × Nat) := []
noncomputable abbrev X49 : Nat → Ctx := ctxOf tb K49 L49 Q49
theorem E49 : ∀ x, funRun fs X49 6 49 C49 x = C49.fn x := fun x => by kernel_rfl
theorem B49 : ConB Try.prog 49 C49 := ConB.make FS MIX TY (cons := K49) (L := L49) (ptrs := Q49) ⟨S52, trivial⟩ trivial trivial rfl rfl E49
theorem S49 : ConS Try.prog 49 C49 := B49.call rfl
/-! laws.FnExactFlatStep: function 8 -/
noncomputable def f_laws_FnExactFlatStep (x0 : List Int) (x1 : List Int) (x2 : Int) (x3 : Int) : Option (Bool) :=
  bif (decide ((1048576 : Int) < (x0.length : Int))) then
    some true
  else
    (f_laws_szHart x1 x2 x3 1048576).bind fun y160 =>
    bif (decide (y160 < (0 : Int))) then
      some true
    else
      (f_laws_toIntS x0).bind fun y161 =>
      (f_laws_toHart x1 x2 x3).bind fun y162 =>
      (f_spec_FlatStep y161 y162.1 y162.2.1 y162.2.2).bind fun y163 =>
      (f_laws_toIntS x0).bind fun y164 =>
      (f_laws_toHart x1 x2 x3).bind fun y165 =>
      (f_impl_FlatStep y164 y165.1 y165.2.1 y165.2.2).bind fun y166 =>
      (f_laws_eqIntS y166.1 y163.1).bind fun y167 =>
      bif (!y167) then
        some false
      else
        (f_laws_eqHart y166.2.1 y166.2.2.1 y166.2.2.2 y163.2.1 y163.2.2.1 y163.2.2.2).bind fun y168 =>
        bif (!y168) then
          some false
        else
          (f_laws_toIntS x0).bind fun y169 =>
          (f_laws_eqIntS y164 y169).bind fun y170 =>
          bif (!y170) then
            some false
          else
            (f_laws_toHart x1 x2 x3).bind fun y171 =>
            (f_laws_eqHart y165.1 y165.2.1 y165.2.2 y171.1 y171.2.1 y171.2.2).bind fun y172 =>
            bif (!y172) then
              some false
            else
              (f_laws_markIntS y164 1).bind fun y173 =>
              (some (y173.2 : List Int)).bind fun z174 =>
              (f_laws_markHart y165.1 y165.2.1 y165.2.2 y173.1).bind fun y175 =>
              (some (y175.2 : List Int)).bind fun z176 =>
              bif (decide (y175.1 < (0 : Int))) then
                some false
              else
                (f_laws_eqIntS y166.1 y163.1).bind fun y177 =>
                bif (!y177) then
                  some false
                else
                  (f_laws_eqHart y166.2.1 y166.2.2.1 y166.2.2.2 y163.2.1 y163.2.2.1 y163.2.2.2).bind fun y178 =>
                  bif (!y178) then
                    some false
                  else
                    (f_laws_markIntS y166.1 1).bind fun y179 =>
                    (some (y179.2 : List Int)).bind fun z180 =>
                    (f_laws_markHart y166.2.1 y166.2.2.1 y166.2.2.2 y179.1).bind fun y181 =>
                    (some (y181.2 : List Int)).bind fun z182 =>
                    (f_laws_heldIntS z180 1).bind fun y183 =>
                    bif (decide (y183 < (0 : Int))) then
                      some false
                    else
                      (f_laws_heldHart z182 y166.2.2.1 y166.2.2.2 y183).bind fun y184 =>
                      bif (decide (y184 < (0 : Int))) then
                        some false
                      else
                        bif (!(decide (y184 = y181.1))) then
                          some false
                        else
                          (f_laws_toIntS x0).bind fun y185 =>
                          (f_laws_toHart x1 x2 x3).bind fun y186 =>
                          (f_impl_FlatStep y185 y186.1 y186.2.1 y186.2.2).bind fun y187 =>
                          (f_laws_eqIntS y187.1 y163.1).bind fun y188 =>
                          bif (!y188) then
                            some false
                          else
                            (f_laws_eqHart y187.2.1 y187.2.2.1 y187.2.2.2 y163.2.1 y163.2.2.1 y163.2.2.2).bind fun y189 =>
                            bif (!y189) then
                              some false
                            else
                              (f_laws_heldIntS z180 1).bind fun y190 =>
                              bif (decide (y190 < (0 : Int))) then
                                some false
                              else
                                (f_laws_heldHart z182 y166.2.2.1 y166.2.2.2 y190).bind fun y191 =>
                                bif (decide (y191 < (0 : Int))) then
                                  some false
                                else
                                  bif (!(decide (y191 = y181.1))) then
                                    some false
                                  else
                                    some true
noncomputable def C8 : Con := ⟨[(.B, false, [(.sl R0)]), (.B, true, [(.sl R0), (.int .i64), (.int .i64)])], [(false, [.bool])], [(.sl R0), (.sl R0), (.int .i64), (.int .i64)], [.bool], fun (p : List Int × List Int × Int × Int) => f_laws_FnExactFlatStep p.1 p.2.1 p.2.2.1 p.2.2.2⟩
noncomputable abbrev K8 : Cons := [(24, C24), (27, C27), (28, C28), (42, C42), (44, C44), (47, C47), (48, C48), (49, C49), (50, C50), (51, C51), (52, C52)]
noncomputable abbrev L8 : List (Nat × Loops) := []
abbrev Q8 : List (Nat × List (Int × Nat) × Nat) := []
noncomputable abbrev X8 : Nat → Ctx := ctxOf tb K8 L8 Q8
theorem E8 : ∀ x, funRun fs X8 6 8 C8 x = C8.fn x := fun x => by kernel_rfl
theorem B8 : ConB Try.prog 8 C8 := ConB.make FS MIX TY (cons := K8) (L := L8) (ptrs := Q8) ⟨S24, S27, S28, S42, S44, S47, S48, S49, S50, S51, S52, trivial⟩ trivial trivial rfl rfl E8
theorem S8 : ConS Try.prog 8 C8 := B8.call rfl
/-- What is left: the plain law. -/
def Pure : Prop := ∀ x : Tup [(.sl R0), (.sl R0), (.int .i64), (.int .i64)], WfT [(.sl R0), (.sl R0), (.int .i64), (.int .i64)] x → C8.fn x = some (true : Bool)
end
end Go.Abs
