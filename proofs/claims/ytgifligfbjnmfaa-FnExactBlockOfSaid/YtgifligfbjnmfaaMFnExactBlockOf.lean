import Derived.Test.YtgifligfbjnmfaaProg
import Derived.Test.YtgifligfbjnmfaaAbsD
import Derived.KernelRfl
namespace Go.Abs
open Go.Proofs
set_option linter.unusedVariables false
set_option maxRecDepth 100000
noncomputable section
abbrev N : Nat := 1152921504606846976
abbrev R0 : RT := .one (.int .i64)
abbrev R1 : RT := .cons (.int .i64) (.cons (.int .i64) (.cons (.int .i64) (.cons (.int .i64) (.one (.int .i64)))))
noncomputable def tb : Tb := [(0, ⟨false, [], [], 0, 0⟩),
  (3, ⟨false, [(.int .i64)], [], 0, 8⟩),
  (4, ⟨false, [.bool], [], 0, 1⟩),
  (5, ⟨false, [(.int .u8)], [], 0, 1⟩),
  (9, ⟨false, [.str], [], 0, 16⟩),
  (22, ⟨false, [(.sl R0)], [], 3, 24⟩),
  (35, ⟨false, [(.sl R1)], [], 68, 24⟩),
  (37, ⟨true, [(.int .i64), (.sl R1)], [(0, 3), (1, 35)], 0, 32⟩),
  (68, ⟨true, [(.int .i64), (.int .i64), (.int .i64), (.int .i64), (.int .i64)], [(0, 3), (1, 3), (2, 3), (3, 3), (4, 3)], 0, 40⟩),
  (97, ⟨false, [], [], 0, 0⟩),
  (135, ⟨false, [], [], 0, 0⟩),
  (137, ⟨false, [], [], 0, 8⟩),
  (179, ⟨false, [], [], 0, 8⟩)]
noncomputable def fsL : List (Nat × Func) := [(24, Try.f24), (94, Try.f94), (129, Try.f129), (130, Try.f130), (82, Try.f82), (79, Try.f79), (84, Try.f84), (23, Try.f23), (118, Try.f118), (95, Try.f95), (109, Try.f109), (126, Try.f126), (127, Try.f127), (76, Try.f76), (77, Try.f77), (83, Try.f83), (25, Try.f25), (158, Try.f158), (96, Try.f96), (26, Try.f26), (27, Try.f27), (28, Try.f28), (97, Try.f97), (29, Try.f29), (98, Try.f98), (30, Try.f30), (4, Try.f4)]
noncomputable def fs : Nat → Option Func := getF fsL
theorem MIX : Try.prog.follows .mixedOrders = true := by kernel_rfl
theorem TY : tyCheck Try.prog tb = true := by kernel_rfl
theorem CAT : catCheck tb = true := by kernel_rfl
theorem FSP : FsP Try.prog fsL := ⟨Try.func24, Try.func94, Try.func129, Try.func130, Try.func82, Try.func79, Try.func84, Try.func23, Try.func118, Try.func95, Try.func109, Try.func126, Try.func127, Try.func76, Try.func77, Try.func83, Try.func25, Try.func158, Try.func96, Try.func26, Try.func27, Try.func28, Try.func97, Try.func29, Try.func98, Try.func30, Try.func4, trivial⟩
theorem FSC : (fsL.all fun p => fnChk p.2) = true := by kernel_rfl
theorem FS : FsS Try.prog fs := FsS.of FSP FSC
theorem PT127 : PtrS Try.prog 127 [(82, 1), (65, 2), (66, 3)] 4 := PtrS.make FS MIX TY (cons := []) (L := []) (ptrs := []) trivial trivial trivial rfl (fun l => by kernel_rfl)
/-! laws.toIntS: function 24 -/
noncomputable def f_laws_toIntS.l0 : Nat → (List Int) → Int → (List Int) → Option (List Int)
  | 0, _, _, _ => none
  | n + 1, p1, p2, p3 =>
    bif (decide (p2 < (p1.length : Int))) then
      bif ((decide ((0 : Int) ≤ p2)) && (decide (p2 < (p1.length : Int)))) then
      bif ((decide ((0 : Int) ≤ p2)) && (decide (p2 < (p3.length : Int)))) then
      (some ((p3.set p2.toNat (p1.getD p2.toNat 0)) : List Int)).bind fun z4 =>
      f_laws_toIntS.l0 n p1 (IntKind.wrap .i64 (p2 + (1 : Int))) z4
      else none
      else none
    else
      some p3
noncomputable def f_laws_toIntS (x0 : List Int) : Option (List Int) :=
  bif (decide ((0 : Int) ≤ (x0.length : Int)) && Nat.ble (x0.length : Int).toNat 17592186044416) then
  (f_laws_toIntS.l0 N x0 0 (List.replicate (x0.length : Int).toNat 0)).bind fun r5 =>
  some r5
  else none
noncomputable def C24 : Con := ⟨[(.B, false, [(.sl R0)])], [(false, [(.sl R0)])], [(.sl R0)], [(.sl R0)], fun (p : List Int) => f_laws_toIntS p⟩
noncomputable def f_laws_toIntS.l0.c : LoopCon := ⟨1000, 6, [0, 2, 3, 4], ⟨[(0, .bor none R0 []), (2, .nil (some R0)), (3, .ref 1000 [] none), (4, .int .i64 0)], [(1000, .row R0 [])], 1001⟩, [(.sl R0), (.int .i64), (.sl R0)], [⟨.exit 0, [2, 3], ⟨[(2, .nil (some R0)), (3, .ref 1000 [] none)], [(1000, .row R0 [])], 1001⟩, [(.sl R0)]⟩], fun (p : List Int × Int × List Int) => f_laws_toIntS.l0 N p.1 p.2.1 p.2.2⟩
noncomputable abbrev K24 : Cons := []
noncomputable abbrev L24 : List (Nat × Loops) := [(24, [(3, f_laws_toIntS.l0.c)])]
abbrev Q24 : List (Nat × List (Int × Nat) × Nat) := []
noncomputable abbrev X24 : Nat → Ctx := ctxOf tb K24 L24 Q24
theorem f_laws_toIntS.l0.ok : ∀ n p, (fun (p : List Int × Int × List Int) => f_laws_toIntS.l0 n p.1 p.2.1 p.2.2) p = iterD (roundOf fs X24 6 24 3 false f_laws_toIntS.l0.c) n p :=
  iter_of (l := fun n => fun (p : List Int × Int × List Int) => f_laws_toIntS.l0 n p.1 p.2.1 p.2.2) (fun _ => rfl) (fun n p => by kernel_rfl)
theorem E24 : ∀ x, funRun fs X24 6 24 C24 x = C24.fn x := fun x => by kernel_rfl
theorem B24 : ConB Try.prog 24 C24 := ConB.make FS MIX TY (cons := K24) (L := L24) (ptrs := Q24) trivial trivial ⟨⟨⟨N, fun p => f_laws_toIntS.l0.ok N p⟩, trivial⟩, trivial⟩ rfl rfl E24
theorem S24 : ConS Try.prog 24 C24 := B24.call rfl
/-! spec.l1In: function 94 -/
noncomputable def f_spec_l1In (x0 : Int) (x1 : Int) (x2 : Int) : Option (Bool) :=
  bif (decide (x1 ≤ x0)) then
    some (decide (x0 ≤ x2))
  else
    some false
noncomputable def C94 : Con := ⟨[(.B, false, [(.int .i64)]), (.B, false, [(.int .i64)]), (.B, false, [(.int .i64)])], [(false, [.bool])], [(.int .i64), (.int .i64), (.int .i64)], [.bool], fun (p : Int × Int × Int) => f_spec_l1In p.1 p.2.1 p.2.2⟩
noncomputable abbrev K94 : Cons := []
noncomputable abbrev L94 : List (Nat × Loops) := []
abbrev Q94 : List (Nat × List (Int × Nat) × Nat) := []
noncomputable abbrev X94 : Nat → Ctx := ctxOf tb K94 L94 Q94
theorem E94 : ∀ x, funRun fs X94 6 94 C94 x = C94.fn x := fun x => by kernel_rfl
theorem B94 : ConB Try.prog 94 C94 := ConB.make FS MIX TY (cons := K94) (L := L94) (ptrs := Q94) trivial trivial trivial rfl rfl E94
theorem S94 : ConS Try.prog 94 C94 := B94.call rfl
/-! spec.l8Has: function 129 -/
noncomputable def f_spec_l8Has (x0 : Int) : Option (Int) :=
  (f_spec_l1In x0 1 10).bind fun y6 =>
  bif (!y6) then
    some 0
  else
    bif ((decide ((0 : Int) ≤ x0)) && (decide (x0 < (([0, 9, 7, 11, 11, 14, 15, 10, 8, 0, 7] : List Int).length : Int)))) then
    some (([0, 9, 7, 11, 11, 14, 15, 10, 8, 0, 7] : List Int).getD x0.toNat 0)
    else none
noncomputable def C129 : Con := ⟨[(.B, false, [(.int .i64)])], [(false, [(.int .i64)])], [(.int .i64)], [(.int .i64)], fun (p : Int) => f_spec_l8Has p⟩
noncomputable abbrev K129 : Cons := [(94, C94)]
noncomputable abbrev L129 : List (Nat × Loops) := []
abbrev Q129 : List (Nat × List (Int × Nat) × Nat) := []
noncomputable abbrev X129 : Nat → Ctx := ctxOf tb K129 L129 Q129
theorem E129 : ∀ x, funRun fs X129 6 129 C129 x = C129.fn x := fun x => by kernel_rfl
theorem B129 : ConB Try.prog 129 C129 := ConB.make FS MIX TY (cons := K129) (L := L129) (ptrs := Q129) ⟨S94, trivial⟩ trivial trivial rfl rfl E129
theorem S129 : ConS Try.prog 129 C129 := B129.call rfl
/-! spec.l8Field: function 130 -/
noncomputable def f_spec_l8Field (x0 : Int) (x1 : Int) (x2 : Bool) : Option (Bool) :=
  (f_spec_l1In x0 0 x1).bind fun y7 =>
  bif y7 then
    bif x2 then
      some true
    else
      some (decide (x0 = (0 : Int)))
  else
    some false
noncomputable def C130 : Con := ⟨[(.B, false, [(.int .i64)]), (.B, false, [(.int .i64)]), (.B, false, [.bool])], [(false, [.bool])], [(.int .i64), (.int .i64), .bool], [.bool], fun (p : Int × Int × Bool) => f_spec_l8Field p.1 p.2.1 p.2.2⟩
noncomputable abbrev K130 : Cons := [(94, C94)]
noncomputable abbrev L130 : List (Nat × Loops) := []
abbrev Q130 : List (Nat × List (Int × Nat) × Nat) := []
noncomputable abbrev X130 : Nat → Ctx := ctxOf tb K130 L130 Q130
theorem E130 : ∀ x, funRun fs X130 6 130 C130 x = C130.fn x := fun x => by kernel_rfl
theorem B130 : ConB Try.prog 130 C130 := ConB.make FS MIX TY (cons := K130) (L := L130) (ptrs := Q130) ⟨S94, trivial⟩ trivial trivial rfl rfl E130
theorem S130 : ConS Try.prog 130 C130 := B130.call rfl
/-! spec.InsOk: function 82 -/
noncomputable def f_spec_InsOk (x0 : Int) (x1 : Int) (x2 : Int) (x3 : Int) (x4 : Int) : Option (Bool) :=
  (f_spec_l8Has x0).bind fun y8 =>
  (f_spec_l1In x0 1 10).bind fun y9 =>
  bif y9 then
    (f_spec_l8Field x1 3 (!(decide ((bitI .and .i64 y8 (1 : Int)) = (0 : Int))))).bind fun y10 =>
    bif y10 then
      (f_spec_l8Field x2 3 (!(decide ((bitI .and .i64 y8 (2 : Int)) = (0 : Int))))).bind fun y11 =>
      bif y11 then
        (f_spec_l8Field x3 3 (!(decide ((bitI .and .i64 y8 (4 : Int)) = (0 : Int))))).bind fun y12 =>
        bif y12 then
          (f_spec_l8Field x4 63 (!(decide ((bitI .and .i64 y8 (8 : Int)) = (0 : Int))))).bind fun y13 =>
          some y13
        else
          some false
      else
        some false
    else
      some false
  else
    some false
noncomputable def C82 : Con := ⟨[(.B, true, [(.int .i64), (.int .i64), (.int .i64), (.int .i64), (.int .i64)])], [(false, [.bool])], [(.int .i64), (.int .i64), (.int .i64), (.int .i64), (.int .i64)], [.bool], fun (p : Int × Int × Int × Int × Int) => f_spec_InsOk p.1 p.2.1 p.2.2.1 p.2.2.2.1 p.2.2.2.2⟩
noncomputable abbrev K82 : Cons := [(94, C94), (129, C129), (130, C130)]
noncomputable abbrev L82 : List (Nat × Loops) := []
abbrev Q82 : List (Nat × List (Int × Nat) × Nat) := []
noncomputable abbrev X82 : Nat → Ctx := ctxOf tb K82 L82 Q82
theorem E82 : ∀ x, funRun fs X82 6 82 C82 x = C82.fn x := fun x => by kernel_rfl
theorem B82 : ConB Try.prog 82 C82 := ConB.make FS MIX TY (cons := K82) (L := L82) (ptrs := Q82) ⟨S94, S129, S130, trivial⟩ trivial trivial rfl rfl E82
theorem S82 : ConS Try.prog 82 C82 := B82.call rfl
/-! spec.Decode: function 79 -/
noncomputable def f_spec_Decode (x0 : Int) : Option (Int × Int × Int × Int × Int × Bool) :=
  (f_spec_l1In x0 0 65535).bind fun y14 =>
  bif (!y14) then
    some (0, 0, 0, 0, 0, false)
  else
    (f_spec_InsOk (Int.tmod x0 (16 : Int)) (Int.tmod (IntKind.wrap .i64 (Int.tdiv x0 (16 : Int))) (4 : Int)) (Int.tmod (IntKind.wrap .i64 (Int.tdiv x0 (64 : Int))) (4 : Int)) (Int.tmod (IntKind.wrap .i64 (Int.tdiv x0 (256 : Int))) (4 : Int)) (IntKind.wrap .i64 (Int.tdiv x0 (1024 : Int)))).bind fun y15 =>
    bif (!y15) then
      some (0, 0, 0, 0, 0, false)
    else
      some ((Int.tmod x0 (16 : Int)), (Int.tmod (IntKind.wrap .i64 (Int.tdiv x0 (16 : Int))) (4 : Int)), (Int.tmod (IntKind.wrap .i64 (Int.tdiv x0 (64 : Int))) (4 : Int)), (Int.tmod (IntKind.wrap .i64 (Int.tdiv x0 (256 : Int))) (4 : Int)), (IntKind.wrap .i64 (Int.tdiv x0 (1024 : Int))), true)
noncomputable def C79 : Con := ⟨[(.B, false, [(.int .i64)])], [(true, [(.int .i64), (.int .i64), (.int .i64), (.int .i64), (.int .i64)]), (false, [.bool])], [(.int .i64)], [(.int .i64), (.int .i64), (.int .i64), (.int .i64), (.int .i64), .bool], fun (p : Int) => f_spec_Decode p⟩
noncomputable abbrev K79 : Cons := [(82, C82), (94, C94)]
noncomputable abbrev L79 : List (Nat × Loops) := []
abbrev Q79 : List (Nat × List (Int × Nat) × Nat) := []
noncomputable abbrev X79 : Nat → Ctx := ctxOf tb K79 L79 Q79
theorem E79 : ∀ x, funRun fs X79 6 79 C79 x = C79.fn x := fun x => by kernel_rfl
theorem B79 : ConB Try.prog 79 C79 := ConB.make FS MIX TY (cons := K79) (L := L79) (ptrs := Q79) ⟨S82, S94, trivial⟩ trivial trivial rfl rfl E79
theorem S79 : ConS Try.prog 79 C79 := B79.call rfl
/-! spec.Ends: function 84 -/
noncomputable def f_spec_Ends (x0 : Int) (x1 : Int) (x2 : Int) (x3 : Int) (x4 : Int) : Option (Bool) :=
  (f_spec_InsOk x0 x1 x2 x3 x4).bind fun y16 =>
  bif (!y16) then
    some true
  else
    bif (decide (x0 = (7 : Int))) then
      some true
    else
      bif (decide (x0 = (8 : Int))) then
        some true
      else
        some (decide (x0 = (9 : Int)))
noncomputable def C84 : Con := ⟨[(.B, true, [(.int .i64), (.int .i64), (.int .i64), (.int .i64), (.int .i64)])], [(false, [.bool])], [(.int .i64), (.int .i64), (.int .i64), (.int .i64), (.int .i64)], [.bool], fun (p : Int × Int × Int × Int × Int) => f_spec_Ends p.1 p.2.1 p.2.2.1 p.2.2.2.1 p.2.2.2.2⟩
noncomputable abbrev K84 : Cons := [(82, C82)]
noncomputable abbrev L84 : List (Nat × Loops) := []
abbrev Q84 : List (Nat × List (Int × Nat) × Nat) := []
noncomputable abbrev X84 : Nat → Ctx := ctxOf tb K84 L84 Q84
theorem E84 : ∀ x, funRun fs X84 6 84 C84 x = C84.fn x := fun x => by kernel_rfl
theorem B84 : ConB Try.prog 84 C84 := ConB.make FS MIX TY (cons := K84) (L := L84) (ptrs := Q84) ⟨S82, trivial⟩ trivial trivial rfl rfl E84
theorem S84 : ConS Try.prog 84 C84 := B84.call rfl
/-! spec.BlockOf: function 23 -/
noncomputable def f_spec_BlockOf.l0 : Nat → (List Int) → Int → Int → Int → (List (Int × Int × Int × Int × Int)) → (List (Int × Int × Int × Int × Int)) → Option ((Int × (List (Int × Int × Int × Int × Int))) ⊕ (Int × Int × (List (Int × Int × Int × Int × Int)) × (List (Int × Int × Int × Int × Int))))
  | 0, _, _, _, _, _, _ => none
  | n + 1, p18, p19, p20, p21, p22, p23 =>
    bif (decide (p19 < (4 : Int))) then
      bif ((decide ((0 : Int) ≤ p19)) && (decide (p19 < (p18.length : Int)))) then
      (f_spec_Decode (p18.getD p19.toNat 0)).bind fun y24 =>
      bif (Nat.blt (p23.length + ([(y24.1, y24.2.1, y24.2.2.1, y24.2.2.2.1, y24.2.2.2.2.1)] : List (Int × Int × Int × Int × Int)).length) 3518437208883) then
      (some ((p23 ++ ([(y24.1, y24.2.1, y24.2.2.1, y24.2.2.2.1, y24.2.2.2.2.1)] : List (Int × Int × Int × Int × Int))) : List (Int × Int × Int × Int × Int))).bind fun z25 =>
      (f_spec_Ends y24.1 y24.2.1 y24.2.2.1 y24.2.2.2.1 y24.2.2.2.2.1).bind fun y26 =>
      bif y26 then
        some (.inl (p21, z25))
      else
        f_spec_BlockOf.l0 n p18 (IntKind.wrap .i64 (p19 + (1 : Int))) p20 p21 p22 z25
      else none
      else none
    else
      some (.inr (p20, p21, p22, p23))
noncomputable def f_spec_BlockOf (x0 : List Int) (x1 : Int) : Option (Int × (List (Int × Int × Int × Int × Int))) :=
  bif (!(decide ((x0.length : Int) = (4 : Int)))) then
    some (0, [])
  else
    (f_spec_l1In x1 0 23).bind fun y17 =>
    bif (!y17) then
      some (0, [])
    else
      (f_spec_BlockOf.l0 N x0 (Int.tmod x1 (4 : Int)) 0 x1 ([] : List (Int × Int × Int × Int × Int)) ([] : List (Int × Int × Int × Int × Int))).bind fun r27 =>
      cs r27 (fun a28 =>
        some (a28.1, a28.2)) (fun b29 =>
        some (b29.2.1, b29.2.2.2))
noncomputable def C23 : Con := ⟨[(.B, false, [(.sl R0)]), (.B, false, [(.int .i64)])], [(true, [(.int .i64), (.sl R1)])], [(.sl R0), (.int .i64)], [(.int .i64), (.sl R1)], fun (p : List Int × Int) => f_spec_BlockOf p.1 p.2⟩
noncomputable def f_spec_BlockOf.l0.c : LoopCon := ⟨1000, 6, [0, 4, 5, 6], ⟨[(0, .bor none R0 []), (4, .ptr 1000 0), (5, .ptr 1001 0), (6, .int .i64 0)], [(1000, .box [.int .i64 0, .ref 1002 [] none]), (1001, .box [.int .i64 0, .ref 1003 [] none]), (1002, .row R1 []), (1003, .row R1 [])], 1004⟩, [(.sl R0), (.int .i64), (.int .i64), (.int .i64), (.sl R1), (.sl R1)], [⟨.ret, [4], ⟨[(4, .ptr 1000 0)], [(1000, .box [.int .i64 0, .ref 1001 [] none]), (1001, .row R1 [])], 1002⟩, [(.int .i64), (.sl R1)]⟩, ⟨.exit 0, [4, 5], ⟨[(4, .ptr 1000 0), (5, .ptr 1001 0)], [(1000, .box [.int .i64 0, .ref 1002 [] none]), (1001, .box [.int .i64 0, .ref 1003 [] none]), (1002, .row R1 []), (1003, .row R1 [])], 1004⟩, [(.int .i64), (.int .i64), (.sl R1), (.sl R1)]⟩], fun (p : List Int × Int × Int × Int × (List (Int × Int × Int × Int × Int)) × (List (Int × Int × Int × Int × Int))) => f_spec_BlockOf.l0 N p.1 p.2.1 p.2.2.1 p.2.2.2.1 p.2.2.2.2.1 p.2.2.2.2.2⟩
noncomputable abbrev K23 : Cons := [(79, C79), (84, C84), (94, C94)]
noncomputable abbrev L23 : List (Nat × Loops) := [(23, [(5, f_spec_BlockOf.l0.c)])]
abbrev Q23 : List (Nat × List (Int × Nat) × Nat) := []
noncomputable abbrev X23 : Nat → Ctx := ctxOf tb K23 L23 Q23
theorem f_spec_BlockOf.l0.ok : ∀ n p, (fun (p : List Int × Int × Int × Int × (List (Int × Int × Int × Int × Int)) × (List (Int × Int × Int × Int × Int))) => f_spec_BlockOf.l0 n p.1 p.2.1 p.2.2.1 p.2.2.2.1 p.2.2.2.2.1 p.2.2.2.2.2) p = iterD (roundOf fs X23 6 23 5 false f_spec_BlockOf.l0.c) n p :=
  iter_of (l := fun n => fun (p : List Int × Int × Int × Int × (List (Int × Int × Int × Int × Int)) × (List (Int × Int × Int × Int × Int))) => f_spec_BlockOf.l0 n p.1 p.2.1 p.2.2.1 p.2.2.2.1 p.2.2.2.2.1 p.2.2.2.2.2) (fun _ => rfl) (fun n p => by kernel_rfl)
theorem E23 : ∀ x, funRun fs X23 6 23 C23 x = C23.fn x := fun x => by kernel_rfl
theorem B23 : ConB Try.prog 23 C23 := ConB.make FS MIX TY (cons := K23) (L := L23) (ptrs := Q23) ⟨S79, S84, S94, trivial⟩ trivial ⟨⟨⟨N, fun p => f_spec_BlockOf.l0.ok N p⟩, trivial⟩, trivial⟩ rfl rfl E23
theorem S23 : ConS Try.prog 23 C23 := B23.call rfl
/-! impl.from: function 118 -/
noncomputable def f_impl_from (x0 : Int) (x1 : Int) (x2 : Int) : Option (Bool) :=
  bif (decide (x1 ≤ x0)) then
    some (decide (x0 ≤ x2))
  else
    some false
noncomputable def C118 : Con := ⟨[(.B, false, [(.int .i64)]), (.B, false, [(.int .i64)]), (.B, false, [(.int .i64)])], [(false, [.bool])], [(.int .i64), (.int .i64), (.int .i64)], [.bool], fun (p : Int × Int × Int) => f_impl_from p.1 p.2.1 p.2.2⟩
noncomputable abbrev K118 : Cons := []
noncomputable abbrev L118 : List (Nat × Loops) := []
abbrev Q118 : List (Nat × List (Int × Nat) × Nat) := []
noncomputable abbrev X118 : Nat → Ctx := ctxOf tb K118 L118 Q118
theorem E118 : ∀ x, funRun fs X118 6 118 C118 x = C118.fn x := fun x => by kernel_rfl
theorem B118 : ConB Try.prog 118 C118 := ConB.make FS MIX TY (cons := K118) (L := L118) (ptrs := Q118) trivial trivial trivial rfl rfl E118
theorem S118 : ConS Try.prog 118 C118 := B118.call rfl
/-! impl.isCell: function 95 -/
noncomputable def f_impl_isCell (x0 : Int) : Option (Bool) :=
  (f_impl_from x0 0 23).bind fun y30 =>
  some y30
noncomputable def C95 : Con := ⟨[(.B, false, [(.int .i64)])], [(false, [.bool])], [(.int .i64)], [.bool], fun (p : Int) => f_impl_isCell p⟩
noncomputable abbrev K95 : Cons := [(118, C118)]
noncomputable abbrev L95 : List (Nat × Loops) := []
abbrev Q95 : List (Nat × List (Int × Nat) × Nat) := []
noncomputable abbrev X95 : Nat → Ctx := ctxOf tb K95 L95 Q95
theorem E95 : ∀ x, funRun fs X95 6 95 C95 x = C95.fn x := fun x => by kernel_rfl
theorem B95 : ConB Try.prog 95 C95 := ConB.make FS MIX TY (cons := K95) (L := L95) (ptrs := Q95) ⟨S118, trivial⟩ trivial trivial rfl rfl E95
theorem S95 : ConS Try.prog 95 C95 := B95.call rfl
/-! impl.isWord: function 109 -/
noncomputable def f_impl_isWord (x0 : Int) : Option (Bool) :=
  (f_impl_from x0 0 65535).bind fun y31 =>
  some y31
noncomputable def C109 : Con := ⟨[(.B, false, [(.int .i64)])], [(false, [.bool])], [(.int .i64)], [.bool], fun (p : Int) => f_impl_isWord p⟩
noncomputable abbrev K109 : Cons := [(118, C118)]
noncomputable abbrev L109 : List (Nat × Loops) := []
abbrev Q109 : List (Nat × List (Int × Nat) × Nat) := []
noncomputable abbrev X109 : Nat → Ctx := ctxOf tb K109 L109 Q109
theorem E109 : ∀ x, funRun fs X109 6 109 C109 x = C109.fn x := fun x => by kernel_rfl
theorem B109 : ConB Try.prog 109 C109 := ConB.make FS MIX TY (cons := K109) (L := L109) (ptrs := Q109) ⟨S118, trivial⟩ trivial trivial rfl rfl E109
theorem S109 : ConS Try.prog 109 C109 := B109.call rfl
/-! impl.form: function 126 -/
noncomputable def f_impl_form (x0 : Int) : Option (ByteArray × Bool) :=
  bif (decide (x0 = (1 : Int))) then
    some ((⟨#[82, 78]⟩ : ByteArray), true)
  else
    bif (decide (x0 = (2 : Int))) then
      some ((⟨#[82, 65, 66]⟩ : ByteArray), true)
    else
      bif (decide (x0 = (10 : Int))) then
        some ((⟨#[82, 65, 66]⟩ : ByteArray), true)
      else
        bif (decide (x0 = (3 : Int))) then
          some ((⟨#[82, 65, 78]⟩ : ByteArray), true)
        else
          bif (decide (x0 = (4 : Int))) then
            some ((⟨#[82, 65, 78]⟩ : ByteArray), true)
          else
            bif (decide (x0 = (5 : Int))) then
              some ((⟨#[65, 66, 78]⟩ : ByteArray), true)
            else
              bif (decide (x0 = (6 : Int))) then
                some ((⟨#[82, 65, 66, 78]⟩ : ByteArray), true)
              else
                bif (decide (x0 = (7 : Int))) then
                  some ((⟨#[65, 78]⟩ : ByteArray), true)
                else
                  bif (decide (x0 = (8 : Int))) then
                    some ((⟨#[78]⟩ : ByteArray), true)
                  else
                    bif (decide (x0 = (9 : Int))) then
                      some ((⟨#[]⟩ : ByteArray), true)
                    else
                      some ((⟨#[]⟩ : ByteArray), false)
noncomputable def C126 : Con := ⟨[(.B, false, [(.int .i64)])], [(false, [.str]), (false, [.bool])], [(.int .i64)], [.str, .bool], fun (p : Int) => f_impl_form p⟩
noncomputable abbrev K126 : Cons := []
noncomputable abbrev L126 : List (Nat × Loops) := []
abbrev Q126 : List (Nat × List (Int × Nat) × Nat) := []
noncomputable abbrev X126 : Nat → Ctx := ctxOf tb K126 L126 Q126
theorem E126 : ∀ x, funRun fs X126 6 126 C126 x = C126.fn x := fun x => by kernel_rfl
theorem B126 : ConB Try.prog 126 C126 := ConB.make FS MIX TY (cons := K126) (L := L126) (ptrs := Q126) trivial trivial trivial rfl rfl E126
theorem S126 : ConS Try.prog 126 C126 := B126.call rfl
/-! impl.InsOk: function 76 -/
noncomputable def f_impl_InsOk.l0 : Nat → Bool → ByteArray → Bool → Int → Int → Int → Int → Int → Int → Int → Int → Int → Int → Int → Int → Option (Bool × Bool × Int × Int × Int × Int × Int × Int × Int × Int × Int × Int)
  | 0, _, _, _, _, _, _, _, _, _, _, _, _, _, _, _ => none
  | n + 1, p33, p34, p35, p36, p37, p38, p39, p40, p41, p42, p43, p44, p45, p46, p47 =>
    bif (decide (p37 < p36)) then
      bif ((decide ((0 : Int) ≤ p37)) && (decide (p37 < (p34.size : Int)))) then
      bif (decide (((p34.data.getD p37.toNat 0).toNat : Int) = (82 : Int))) then
        bif ((decide ((0 : Int) ≤ p37)) && (decide (p37 < (p34.size : Int)))) then
        bif (decide (((p34.data.getD p37.toNat 0).toNat : Int) = (82 : Int))) then
          f_impl_InsOk.l0 n p33 p34 p35 p36 (IntKind.wrap .i64 (p37 + (1 : Int))) p38 p39 p40 p41 p42 p43 p39 p45 p46 p47
        else
          bif (decide (((p34.data.getD p37.toNat 0).toNat : Int) = (65 : Int))) then
            f_impl_InsOk.l0 n p33 p34 p35 p36 (IntKind.wrap .i64 (p37 + (1 : Int))) p38 p39 p40 p41 p42 p43 p40 p45 p46 p47
          else
            bif (decide (((p34.data.getD p37.toNat 0).toNat : Int) = (66 : Int))) then
              f_impl_InsOk.l0 n p33 p34 p35 p36 (IntKind.wrap .i64 (p37 + (1 : Int))) p38 p39 p40 p41 p42 p43 p41 p45 p46 p47
            else
              f_impl_InsOk.l0 n p33 p34 p35 p36 (IntKind.wrap .i64 (p37 + (1 : Int))) p38 p39 p40 p41 p42 p43 p42 p45 p46 p47
        else none
      else
        bif (decide (((p34.data.getD p37.toNat 0).toNat : Int) = (65 : Int))) then
          bif ((decide ((0 : Int) ≤ p37)) && (decide (p37 < (p34.size : Int)))) then
          bif (decide (((p34.data.getD p37.toNat 0).toNat : Int) = (82 : Int))) then
            f_impl_InsOk.l0 n p33 p34 p35 p36 (IntKind.wrap .i64 (p37 + (1 : Int))) p38 p39 p40 p41 p42 p43 p44 p39 p46 p47
          else
            bif (decide (((p34.data.getD p37.toNat 0).toNat : Int) = (65 : Int))) then
              f_impl_InsOk.l0 n p33 p34 p35 p36 (IntKind.wrap .i64 (p37 + (1 : Int))) p38 p39 p40 p41 p42 p43 p44 p40 p46 p47
            else
              bif (decide (((p34.data.getD p37.toNat 0).toNat : Int) = (66 : Int))) then
                f_impl_InsOk.l0 n p33 p34 p35 p36 (IntKind.wrap .i64 (p37 + (1 : Int))) p38 p39 p40 p41 p42 p43 p44 p41 p46 p47
              else
                f_impl_InsOk.l0 n p33 p34 p35 p36 (IntKind.wrap .i64 (p37 + (1 : Int))) p38 p39 p40 p41 p42 p43 p44 p42 p46 p47
          else none
        else
          bif (decide (((p34.data.getD p37.toNat 0).toNat : Int) = (66 : Int))) then
            bif ((decide ((0 : Int) ≤ p37)) && (decide (p37 < (p34.size : Int)))) then
            bif (decide (((p34.data.getD p37.toNat 0).toNat : Int) = (82 : Int))) then
              f_impl_InsOk.l0 n p33 p34 p35 p36 (IntKind.wrap .i64 (p37 + (1 : Int))) p38 p39 p40 p41 p42 p43 p44 p45 p39 p47
            else
              bif (decide (((p34.data.getD p37.toNat 0).toNat : Int) = (65 : Int))) then
                f_impl_InsOk.l0 n p33 p34 p35 p36 (IntKind.wrap .i64 (p37 + (1 : Int))) p38 p39 p40 p41 p42 p43 p44 p45 p40 p47
              else
                bif (decide (((p34.data.getD p37.toNat 0).toNat : Int) = (66 : Int))) then
                  f_impl_InsOk.l0 n p33 p34 p35 p36 (IntKind.wrap .i64 (p37 + (1 : Int))) p38 p39 p40 p41 p42 p43 p44 p45 p41 p47
                else
                  f_impl_InsOk.l0 n p33 p34 p35 p36 (IntKind.wrap .i64 (p37 + (1 : Int))) p38 p39 p40 p41 p42 p43 p44 p45 p42 p47
            else none
          else
            bif ((decide ((0 : Int) ≤ p37)) && (decide (p37 < (p34.size : Int)))) then
            bif (decide (((p34.data.getD p37.toNat 0).toNat : Int) = (82 : Int))) then
              f_impl_InsOk.l0 n p33 p34 p35 p36 (IntKind.wrap .i64 (p37 + (1 : Int))) p38 p39 p40 p41 p42 p43 p44 p45 p46 p39
            else
              bif (decide (((p34.data.getD p37.toNat 0).toNat : Int) = (65 : Int))) then
                f_impl_InsOk.l0 n p33 p34 p35 p36 (IntKind.wrap .i64 (p37 + (1 : Int))) p38 p39 p40 p41 p42 p43 p44 p45 p46 p40
              else
                bif (decide (((p34.data.getD p37.toNat 0).toNat : Int) = (66 : Int))) then
                  f_impl_InsOk.l0 n p33 p34 p35 p36 (IntKind.wrap .i64 (p37 + (1 : Int))) p38 p39 p40 p41 p42 p43 p44 p45 p46 p41
                else
                  f_impl_InsOk.l0 n p33 p34 p35 p36 (IntKind.wrap .i64 (p37 + (1 : Int))) p38 p39 p40 p41 p42 p43 p44 p45 p46 p42
            else none
      else none
    else
      some (p33, p35, p38, p39, p40, p41, p42, p43, p44, p45, p46, p47)
noncomputable def f_impl_InsOk (x0 : Int) (x1 : Int) (x2 : Int) (x3 : Int) (x4 : Int) : Option (Bool) :=
  (f_impl_form x0).bind fun y32 =>
  (f_impl_InsOk.l0 N false y32.1 y32.2 (y32.1.size : Int) 0 x0 x1 x2 x3 x4 x0 0 0 0 0).bind fun r48 =>
  bif r48.2.1 then
    bif ((decide (r48.2.2.2.2.2.2.2.1 = r48.2.2.1)) && ((decide (r48.2.2.2.2.2.2.2.2.1 = r48.2.2.2.1)) && ((decide (r48.2.2.2.2.2.2.2.2.2.1 = r48.2.2.2.2.1)) && ((decide (r48.2.2.2.2.2.2.2.2.2.2.1 = r48.2.2.2.2.2.1)) && (decide (r48.2.2.2.2.2.2.2.2.2.2.2 = r48.2.2.2.2.2.2.1)))))) then
      (f_impl_from r48.2.2.2.1 0 3).bind fun y49 =>
      bif y49 then
        (f_impl_from r48.2.2.2.2.1 0 3).bind fun y50 =>
        bif y50 then
          (f_impl_from r48.2.2.2.2.2.1 0 3).bind fun y51 =>
          bif y51 then
            (f_impl_from r48.2.2.2.2.2.2.1 0 63).bind fun y52 =>
            some y52
          else
            some false
        else
          some false
      else
        some false
    else
      some false
  else
    some false
noncomputable def C76 : Con := ⟨[(.B, true, [(.int .i64), (.int .i64), (.int .i64), (.int .i64), (.int .i64)])], [(false, [.bool])], [(.int .i64), (.int .i64), (.int .i64), (.int .i64), (.int .i64)], [.bool], fun (p : Int × Int × Int × Int × Int) => f_impl_InsOk p.1 p.2.1 p.2.2.1 p.2.2.2.1 p.2.2.2.2⟩
noncomputable def f_impl_InsOk.l0.c : LoopCon := ⟨1000, 6, [1, 2, 3, 4, 5, 17, 18], ⟨[(1, .ptr 1000 0), (2, .bool false), (3, .str ⟨#[]⟩), (4, .bool false), (5, .ptr 1001 0), (17, .int .i64 0), (18, .int .i64 0)], [(1000, .box [.int .i64 0, .int .i64 0, .int .i64 0, .int .i64 0, .int .i64 0]), (1001, .box [.int .i64 0, .int .i64 0, .int .i64 0, .int .i64 0, .int .i64 0])], 1002⟩, [.bool, .str, .bool, (.int .i64), (.int .i64), (.int .i64), (.int .i64), (.int .i64), (.int .i64), (.int .i64), (.int .i64), (.int .i64), (.int .i64), (.int .i64), (.int .i64)], [⟨.exit 0, [1, 2, 4, 5], ⟨[(1, .ptr 1000 0), (2, .bool false), (4, .bool false), (5, .ptr 1001 0)], [(1000, .box [.int .i64 0, .int .i64 0, .int .i64 0, .int .i64 0, .int .i64 0]), (1001, .box [.int .i64 0, .int .i64 0, .int .i64 0, .int .i64 0, .int .i64 0])], 1002⟩, [.bool, .bool, (.int .i64), (.int .i64), (.int .i64), (.int .i64), (.int .i64), (.int .i64), (.int .i64), (.int .i64), (.int .i64), (.int .i64)]⟩], fun (p : Bool × ByteArray × Bool × Int × Int × Int × Int × Int × Int × Int × Int × Int × Int × Int × Int) => f_impl_InsOk.l0 N p.1 p.2.1 p.2.2.1 p.2.2.2.1 p.2.2.2.2.1 p.2.2.2.2.2.1 p.2.2.2.2.2.2.1 p.2.2.2.2.2.2.2.1 p.2.2.2.2.2.2.2.2.1 p.2.2.2.2.2.2.2.2.2.1 p.2.2.2.2.2.2.2.2.2.2.1 p.2.2.2.2.2.2.2.2.2.2.2.1 p.2.2.2.2.2.2.2.2.2.2.2.2.1 p.2.2.2.2.2.2.2.2.2.2.2.2.2.1 p.2.2.2.2.2.2.2.2.2.2.2.2.2.2⟩
noncomputable abbrev K76 : Cons := [(118, C118), (126, C126)]
noncomputable abbrev L76 : List (Nat × Loops) := [(76, [(4, f_impl_InsOk.l0.c)])]
abbrev Q76 : List (Nat × List (Int × Nat) × Nat) := [(127, [(82, 1), (65, 2), (66, 3)], 4)]
noncomputable abbrev X76 : Nat → Ctx := ctxOf tb K76 L76 Q76
theorem f_impl_InsOk.l0.ok : ∀ n p, (fun (p : Bool × ByteArray × Bool × Int × Int × Int × Int × Int × Int × Int × Int × Int × Int × Int × Int) => f_impl_InsOk.l0 n p.1 p.2.1 p.2.2.1 p.2.2.2.1 p.2.2.2.2.1 p.2.2.2.2.2.1 p.2.2.2.2.2.2.1 p.2.2.2.2.2.2.2.1 p.2.2.2.2.2.2.2.2.1 p.2.2.2.2.2.2.2.2.2.1 p.2.2.2.2.2.2.2.2.2.2.1 p.2.2.2.2.2.2.2.2.2.2.2.1 p.2.2.2.2.2.2.2.2.2.2.2.2.1 p.2.2.2.2.2.2.2.2.2.2.2.2.2.1 p.2.2.2.2.2.2.2.2.2.2.2.2.2.2) p = iterD (roundOf fs X76 6 76 4 false f_impl_InsOk.l0.c) n p :=
  iter_of (l := fun n => fun (p : Bool × ByteArray × Bool × Int × Int × Int × Int × Int × Int × Int × Int × Int × Int × Int × Int) => f_impl_InsOk.l0 n p.1 p.2.1 p.2.2.1 p.2.2.2.1 p.2.2.2.2.1 p.2.2.2.2.2.1 p.2.2.2.2.2.2.1 p.2.2.2.2.2.2.2.1 p.2.2.2.2.2.2.2.2.1 p.2.2.2.2.2.2.2.2.2.1 p.2.2.2.2.2.2.2.2.2.2.1 p.2.2.2.2.2.2.2.2.2.2.2.1 p.2.2.2.2.2.2.2.2.2.2.2.2.1 p.2.2.2.2.2.2.2.2.2.2.2.2.2.1 p.2.2.2.2.2.2.2.2.2.2.2.2.2.2) (fun _ => rfl) (fun n p => by kernel_rfl)
theorem E76 : ∀ x, funRun fs X76 6 76 C76 x = C76.fn x := fun x => by kernel_rfl
theorem B76 : ConB Try.prog 76 C76 := ConB.make FS MIX TY (cons := K76) (L := L76) (ptrs := Q76) ⟨S118, S126, trivial⟩ ⟨PT127, trivial⟩ ⟨⟨⟨N, fun p => f_impl_InsOk.l0.ok N p⟩, trivial⟩, trivial⟩ rfl rfl E76
theorem S76 : ConS Try.prog 76 C76 := B76.call rfl
/-! impl.Decode: function 77 -/
noncomputable def f_impl_Decode (x0 : Int) : Option (Int × Int × Int × Int × Int × Bool) :=
  (f_impl_isWord x0).bind fun y53 =>
  bif (!y53) then
    some (0, 0, 0, 0, 0, false)
  else
    (f_impl_InsOk (Int.tmod x0 (16 : Int)) (Int.tmod (IntKind.wrap .i64 (Int.tdiv x0 (16 : Int))) (4 : Int)) (Int.tmod (IntKind.wrap .i64 (Int.tdiv x0 (64 : Int))) (4 : Int)) (Int.tmod (IntKind.wrap .i64 (Int.tdiv x0 (256 : Int))) (4 : Int)) (IntKind.wrap .i64 (Int.tdiv x0 (1024 : Int)))).bind fun y54 =>
    bif (!y54) then
      some (0, 0, 0, 0, 0, false)
    else
      some ((Int.tmod x0 (16 : Int)), (Int.tmod (IntKind.wrap .i64 (Int.tdiv x0 (16 : Int))) (4 : Int)), (Int.tmod (IntKind.wrap .i64 (Int.tdiv x0 (64 : Int))) (4 : Int)), (Int.tmod (IntKind.wrap .i64 (Int.tdiv x0 (256 : Int))) (4 : Int)), (IntKind.wrap .i64 (Int.tdiv x0 (1024 : Int))), true)
noncomputable def C77 : Con := ⟨[(.B, false, [(.int .i64)])], [(true, [(.int .i64), (.int .i64), (.int .i64), (.int .i64), (.int .i64)]), (false, [.bool])], [(.int .i64)], [(.int .i64), (.int .i64), (.int .i64), (.int .i64), (.int .i64), .bool], fun (p : Int) => f_impl_Decode p⟩
noncomputable abbrev K77 : Cons := [(76, C76), (109, C109)]
noncomputable abbrev L77 : List (Nat × Loops) := []
abbrev Q77 : List (Nat × List (Int × Nat) × Nat) := []
noncomputable abbrev X77 : Nat → Ctx := ctxOf tb K77 L77 Q77
theorem E77 : ∀ x, funRun fs X77 6 77 C77 x = C77.fn x := fun x => by kernel_rfl
theorem B77 : ConB Try.prog 77 C77 := ConB.make FS MIX TY (cons := K77) (L := L77) (ptrs := Q77) ⟨S76, S109, trivial⟩ trivial trivial rfl rfl E77
theorem S77 : ConS Try.prog 77 C77 := B77.call rfl
/-! impl.Ends: function 83 -/
noncomputable def f_impl_Ends (x0 : Int) (x1 : Int) (x2 : Int) (x3 : Int) (x4 : Int) : Option (Bool) :=
  (f_impl_InsOk x0 x1 x2 x3 x4).bind fun y55 =>
  bif (!y55) then
    some true
  else
    bif (decide (x0 = (7 : Int))) then
      some true
    else
      bif (decide (x0 = (8 : Int))) then
        some true
      else
        some (decide (x0 = (9 : Int)))
noncomputable def C83 : Con := ⟨[(.B, true, [(.int .i64), (.int .i64), (.int .i64), (.int .i64), (.int .i64)])], [(false, [.bool])], [(.int .i64), (.int .i64), (.int .i64), (.int .i64), (.int .i64)], [.bool], fun (p : Int × Int × Int × Int × Int) => f_impl_Ends p.1 p.2.1 p.2.2.1 p.2.2.2.1 p.2.2.2.2⟩
noncomputable abbrev K83 : Cons := [(76, C76)]
noncomputable abbrev L83 : List (Nat × Loops) := []
abbrev Q83 : List (Nat × List (Int × Nat) × Nat) := []
noncomputable abbrev X83 : Nat → Ctx := ctxOf tb K83 L83 Q83
theorem E83 : ∀ x, funRun fs X83 6 83 C83 x = C83.fn x := fun x => by kernel_rfl
theorem B83 : ConB Try.prog 83 C83 := ConB.make FS MIX TY (cons := K83) (L := L83) (ptrs := Q83) ⟨S76, trivial⟩ trivial trivial rfl rfl E83
theorem S83 : ConS Try.prog 83 C83 := B83.call rfl
/-! impl.BlockOf: function 25 -/
noncomputable def f_impl_BlockOf.l0 : Nat → (List Int) → Int → Int → Int → Int → (List (Int × Int × Int × Int × Int)) → (List (Int × Int × Int × Int × Int)) → Option (Int × Int × (List (Int × Int × Int × Int × Int)) × (List (Int × Int × Int × Int × Int)))
  | 0, _, _, _, _, _, _, _ => none
  | n + 1, p57, p58, p59, p60, p61, p62, p63 =>
    bif (decide (p59 < p58)) then
      bif ((decide ((0 : Int) ≤ p59)) && (decide (p59 < (p57.length : Int)))) then
      (f_impl_Decode (p57.getD p59.toNat 0)).bind fun y64 =>
      bif (Nat.blt (p63.length + ([(y64.1, y64.2.1, y64.2.2.1, y64.2.2.2.1, y64.2.2.2.2.1)] : List (Int × Int × Int × Int × Int)).length) 3518437208883) then
      (some ((p63 ++ ([(y64.1, y64.2.1, y64.2.2.1, y64.2.2.2.1, y64.2.2.2.2.1)] : List (Int × Int × Int × Int × Int))) : List (Int × Int × Int × Int × Int))).bind fun z65 =>
      (f_impl_Ends y64.1 y64.2.1 y64.2.2.1 y64.2.2.2.1 y64.2.2.2.2.1).bind fun y66 =>
      bif y66 then
        some (p60, p61, p62, z65)
      else
        f_impl_BlockOf.l0 n p57 p58 (IntKind.wrap .i64 (p59 + (1 : Int))) p60 p61 p62 z65
      else none
      else none
    else
      some (p60, p61, p62, p63)
noncomputable def f_impl_BlockOf (x0 : List Int) (x1 : Int) : Option (Int × (List (Int × Int × Int × Int × Int))) :=
  bif (!(decide ((x0.length : Int) = (4 : Int)))) then
    some (0, [])
  else
    (f_impl_isCell x1).bind fun y56 =>
    bif (!y56) then
      some (0, [])
    else
      bif ((decide ((0 : Int) ≤ (Int.tmod x1 (4 : Int)))) && (decide ((Int.tmod x1 (4 : Int)) ≤ (x0.length : Int)))) then
      (f_impl_BlockOf.l0 N (x0.drop (Int.tmod x1 (4 : Int)).toNat) ((x0.drop (Int.tmod x1 (4 : Int)).toNat).length : Int) 0 0 x1 ([] : List (Int × Int × Int × Int × Int)) ([] : List (Int × Int × Int × Int × Int))).bind fun r67 =>
      some (r67.2.1, r67.2.2.2)
      else none
noncomputable def C25 : Con := ⟨[(.B, false, [(.sl R0)]), (.B, false, [(.int .i64)])], [(true, [(.int .i64), (.sl R1)])], [(.sl R0), (.int .i64)], [(.int .i64), (.sl R1)], fun (p : List Int × Int) => f_impl_BlockOf p.1 p.2⟩
noncomputable def f_impl_BlockOf.l0.c : LoopCon := ⟨1000, 6, [4, 5, 24, 25, 26], ⟨[(4, .ptr 1000 0), (5, .ptr 1001 0), (24, .bor none R0 []), (25, .int .i64 0), (26, .int .i64 0)], [(1000, .box [.int .i64 0, .ref 1002 [] none]), (1001, .box [.int .i64 0, .ref 1003 [] none]), (1002, .row R1 []), (1003, .row R1 [])], 1004⟩, [(.sl R0), (.int .i64), (.int .i64), (.int .i64), (.int .i64), (.sl R1), (.sl R1)], [⟨.exit 0, [4, 5], ⟨[(4, .ptr 1000 0), (5, .ptr 1001 0)], [(1000, .box [.int .i64 0, .ref 1002 [] none]), (1001, .box [.int .i64 0, .ref 1003 [] none]), (1002, .row R1 []), (1003, .row R1 [])], 1004⟩, [(.int .i64), (.int .i64), (.sl R1), (.sl R1)]⟩], fun (p : List Int × Int × Int × Int × Int × (List (Int × Int × Int × Int × Int)) × (List (Int × Int × Int × Int × Int))) => f_impl_BlockOf.l0 N p.1 p.2.1 p.2.2.1 p.2.2.2.1 p.2.2.2.2.1 p.2.2.2.2.2.1 p.2.2.2.2.2.2⟩
noncomputable abbrev K25 : Cons := [(77, C77), (83, C83), (95, C95)]
noncomputable abbrev L25 : List (Nat × Loops) := [(25, [(5, f_impl_BlockOf.l0.c)])]
abbrev Q25 : List (Nat × List (Int × Nat) × Nat) := []
noncomputable abbrev X25 : Nat → Ctx := ctxOf tb K25 L25 Q25
theorem f_impl_BlockOf.l0.ok : ∀ n p, (fun (p : List Int × Int × Int × Int × Int × (List (Int × Int × Int × Int × Int)) × (List (Int × Int × Int × Int × Int))) => f_impl_BlockOf.l0 n p.1 p.2.1 p.2.2.1 p.2.2.2.1 p.2.2.2.2.1 p.2.2.2.2.2.1 p.2.2.2.2.2.2) p = iterD (roundOf fs X25 6 25 5 false f_impl_BlockOf.l0.c) n p :=
  iter_of (l := fun n => fun (p : List Int × Int × Int × Int × Int × (List (Int × Int × Int × Int × Int)) × (List (Int × Int × Int × Int × Int))) => f_impl_BlockOf.l0 n p.1 p.2.1 p.2.2.1 p.2.2.2.1 p.2.2.2.2.1 p.2.2.2.2.2.1 p.2.2.2.2.2.2) (fun _ => rfl) (fun n p => by kernel_rfl)
theorem E25 : ∀ x, funRun fs X25 6 25 C25 x = C25.fn x := fun x => by kernel_rfl
theorem B25 : ConB Try.prog 25 C25 := ConB.make FS MIX TY (cons := K25) (L := L25) (ptrs := Q25) ⟨S77, S83, S95, trivial⟩ trivial ⟨⟨⟨N, fun p => f_impl_BlockOf.l0.ok N p⟩, trivial⟩, trivial⟩ rfl rfl E25
theorem S25 : ConS Try.prog 25 C25 := B25.call rfl
/-! laws.eqIns: function 158 -/
noncomputable def f_laws_eqIns (x0 : Int) (x1 : Int) (x2 : Int) (x3 : Int) (x4 : Int) (x5 : Int) (x6 : Int) (x7 : Int) (x8 : Int) (x9 : Int) : Option (Bool) :=
  bif (!(decide (x0 = x5))) then
    some false
  else
    bif (!(decide (x1 = x6))) then
      some false
    else
      bif (!(decide (x2 = x7))) then
        some false
      else
        bif (!(decide (x3 = x8))) then
          some false
        else
          bif (!(decide (x4 = x9))) then
            some false
          else
            some true
noncomputable def C158 : Con := ⟨[(.B, true, [(.int .i64), (.int .i64), (.int .i64), (.int .i64), (.int .i64)]), (.B, true, [(.int .i64), (.int .i64), (.int .i64), (.int .i64), (.int .i64)])], [(false, [.bool])], [(.int .i64), (.int .i64), (.int .i64), (.int .i64), (.int .i64), (.int .i64), (.int .i64), (.int .i64), (.int .i64), (.int .i64)], [.bool], fun (p : Int × Int × Int × Int × Int × Int × Int × Int × Int × Int) => f_laws_eqIns p.1 p.2.1 p.2.2.1 p.2.2.2.1 p.2.2.2.2.1 p.2.2.2.2.2.1 p.2.2.2.2.2.2.1 p.2.2.2.2.2.2.2.1 p.2.2.2.2.2.2.2.2.1 p.2.2.2.2.2.2.2.2.2⟩
noncomputable abbrev K158 : Cons := []
noncomputable abbrev L158 : List (Nat × Loops) := []
abbrev Q158 : List (Nat × List (Int × Nat) × Nat) := []
noncomputable abbrev X158 : Nat → Ctx := ctxOf tb K158 L158 Q158
theorem E158 : ∀ x, funRun fs X158 6 158 C158 x = C158.fn x := fun x => by kernel_rfl
theorem B158 : ConB Try.prog 158 C158 := ConB.make FS MIX TY (cons := K158) (L := L158) (ptrs := Q158) trivial trivial trivial rfl rfl E158
theorem S158 : ConS Try.prog 158 C158 := B158.call rfl
/-! laws.eqInsS: function 96 -/
noncomputable def f_laws_eqInsS.l0 : Nat → (List (Int × Int × Int × Int × Int)) → (List (Int × Int × Int × Int × Int)) → Bool → Int → Option ((Bool) ⊕ (Bool))
  | 0, _, _, _, _ => none
  | n + 1, p68, p69, p70, p71 =>
    bif (decide (p71 < (p68.length : Int))) then
      bif ((decide ((0 : Int) ≤ p71)) && (decide (p71 < (p68.length : Int)))) then
      bif ((decide ((0 : Int) ≤ p71)) && (decide (p71 < (p69.length : Int)))) then
      (f_laws_eqIns ((p68.getD p71.toNat (0, 0, 0, 0, 0)).1) ((p68.getD p71.toNat (0, 0, 0, 0, 0)).2.1) ((p68.getD p71.toNat (0, 0, 0, 0, 0)).2.2.1) ((p68.getD p71.toNat (0, 0, 0, 0, 0)).2.2.2.1) ((p68.getD p71.toNat (0, 0, 0, 0, 0)).2.2.2.2) ((p69.getD p71.toNat (0, 0, 0, 0, 0)).1) ((p69.getD p71.toNat (0, 0, 0, 0, 0)).2.1) ((p69.getD p71.toNat (0, 0, 0, 0, 0)).2.2.1) ((p69.getD p71.toNat (0, 0, 0, 0, 0)).2.2.2.1) ((p69.getD p71.toNat (0, 0, 0, 0, 0)).2.2.2.2)).bind fun y72 =>
      bif (!y72) then
        some (.inl false)
      else
        f_laws_eqInsS.l0 n p68 p69 p70 (IntKind.wrap .i64 (p71 + (1 : Int)))
      else none
      else none
    else
      some (.inr p70)
noncomputable def f_laws_eqInsS (x0 : List (Int × Int × Int × Int × Int)) (x1 : List (Int × Int × Int × Int × Int)) : Option (Bool) :=
  bif (!(decide ((x0.length : Int) = (x1.length : Int)))) then
    some false
  else
    (f_laws_eqInsS.l0 N x0 x1 false 0).bind fun r73 =>
    cs r73 (fun a74 =>
      some a74) (fun b75 =>
      some true)
noncomputable def C96 : Con := ⟨[(.B, false, [(.sl R1)]), (.B, false, [(.sl R1)])], [(false, [.bool])], [(.sl R1), (.sl R1)], [.bool], fun (p : (List (Int × Int × Int × Int × Int)) × (List (Int × Int × Int × Int × Int))) => f_laws_eqInsS p.1 p.2⟩
noncomputable def f_laws_eqInsS.l0.c : LoopCon := ⟨1000, 6, [0, 1, 4, 5], ⟨[(0, .bor none R1 []), (1, .bor none R1 []), (4, .bool false), (5, .int .i64 0)], [], 1000⟩, [(.sl R1), (.sl R1), .bool, (.int .i64)], [⟨.ret, [4], ⟨[(4, .bool false)], [], 1000⟩, [.bool]⟩, ⟨.exit 0, [4], ⟨[(4, .bool false)], [], 1000⟩, [.bool]⟩], fun (p : (List (Int × Int × Int × Int × Int)) × (List (Int × Int × Int × Int × Int)) × Bool × Int) => f_laws_eqInsS.l0 N p.1 p.2.1 p.2.2.1 p.2.2.2⟩
noncomputable abbrev K96 : Cons := [(158, C158)]
noncomputable abbrev L96 : List (Nat × Loops) := [(96, [(4, f_laws_eqInsS.l0.c)])]
abbrev Q96 : List (Nat × List (Int × Nat) × Nat) := []
noncomputable abbrev X96 : Nat → Ctx := ctxOf tb K96 L96 Q96
theorem f_laws_eqInsS.l0.ok : ∀ n p, (fun (p : (List (Int × Int × Int × Int × Int)) × (List (Int × Int × Int × Int × Int)) × Bool × Int) => f_laws_eqInsS.l0 n p.1 p.2.1 p.2.2.1 p.2.2.2) p = iterD (roundOf fs X96 6 96 4 false f_laws_eqInsS.l0.c) n p :=
  iter_of (l := fun n => fun (p : (List (Int × Int × Int × Int × Int)) × (List (Int × Int × Int × Int × Int)) × Bool × Int) => f_laws_eqInsS.l0 n p.1 p.2.1 p.2.2.1 p.2.2.2) (fun _ => rfl) (fun n p => by kernel_rfl)
theorem E96 : ∀ x, funRun fs X96 6 96 C96 x = C96.fn x := fun x => by kernel_rfl
theorem B96 : ConB Try.prog 96 C96 := ConB.make FS MIX TY (cons := K96) (L := L96) (ptrs := Q96) ⟨S158, trivial⟩ trivial ⟨⟨⟨N, fun p => f_laws_eqInsS.l0.ok N p⟩, trivial⟩, trivial⟩ rfl rfl E96
theorem S96 : ConS Try.prog 96 C96 := B96.call rfl
/-! laws.eqBlock: function 26 -/
noncomputable def f_laws_eqBlock (x0 : Int) (x1 : List (Int × Int × Int × Int × Int)) (x2 : Int) (x3 : List (Int × Int × Int × Int × Int)) : Option (Bool) :=
  bif (!(decide (x0 = x2))) then
    some false
  else
    (f_laws_eqInsS x1 x3).bind fun y76 =>
    bif (!y76) then
      some false
    else
      some true
noncomputable def C26 : Con := ⟨[(.B, true, [(.int .i64), (.sl R1)]), (.B, true, [(.int .i64), (.sl R1)])], [(false, [.bool])], [(.int .i64), (.sl R1), (.int .i64), (.sl R1)], [.bool], fun (p : Int × (List (Int × Int × Int × Int × Int)) × Int × (List (Int × Int × Int × Int × Int))) => f_laws_eqBlock p.1 p.2.1 p.2.2.1 p.2.2.2⟩
noncomputable abbrev K26 : Cons := [(96, C96)]
noncomputable abbrev L26 : List (Nat × Loops) := []
abbrev Q26 : List (Nat × List (Int × Nat) × Nat) := []
noncomputable abbrev X26 : Nat → Ctx := ctxOf tb K26 L26 Q26
theorem E26 : ∀ x, funRun fs X26 6 26 C26 x = C26.fn x := fun x => by kernel_rfl
theorem B26 : ConB Try.prog 26 C26 := ConB.make FS MIX TY (cons := K26) (L := L26) (ptrs := Q26) ⟨S96, trivial⟩ trivial trivial rfl rfl E26
theorem S26 : ConS Try.prog 26 C26 := B26.call rfl
/-! laws.eqIntS: function 27 -/
noncomputable def f_laws_eqIntS.l0 : Nat → (List Int) → (List Int) → Bool → Int → Option ((Bool) ⊕ (Bool))
  | 0, _, _, _, _ => none
  | n + 1, p77, p78, p79, p80 =>
    bif (decide (p80 < (p77.length : Int))) then
      bif ((decide ((0 : Int) ≤ p80)) && (decide (p80 < (p77.length : Int)))) then
      bif ((decide ((0 : Int) ≤ p80)) && (decide (p80 < (p78.length : Int)))) then
      bif (!(decide ((p77.getD p80.toNat 0) = (p78.getD p80.toNat 0)))) then
        some (.inl false)
      else
        f_laws_eqIntS.l0 n p77 p78 p79 (IntKind.wrap .i64 (p80 + (1 : Int)))
      else none
      else none
    else
      some (.inr p79)
noncomputable def f_laws_eqIntS (x0 : List Int) (x1 : List Int) : Option (Bool) :=
  bif (!(decide ((x0.length : Int) = (x1.length : Int)))) then
    some false
  else
    (f_laws_eqIntS.l0 N x0 x1 false 0).bind fun r81 =>
    cs r81 (fun a82 =>
      some a82) (fun b83 =>
      some true)
noncomputable def C27 : Con := ⟨[(.B, false, [(.sl R0)]), (.B, false, [(.sl R0)])], [(false, [.bool])], [(.sl R0), (.sl R0)], [.bool], fun (p : List Int × List Int) => f_laws_eqIntS p.1 p.2⟩
noncomputable def f_laws_eqIntS.l0.c : LoopCon := ⟨1000, 6, [0, 1, 4, 5], ⟨[(0, .bor none R0 []), (1, .bor none R0 []), (4, .bool false), (5, .int .i64 0)], [], 1000⟩, [(.sl R0), (.sl R0), .bool, (.int .i64)], [⟨.ret, [4], ⟨[(4, .bool false)], [], 1000⟩, [.bool]⟩, ⟨.exit 0, [4], ⟨[(4, .bool false)], [], 1000⟩, [.bool]⟩], fun (p : List Int × List Int × Bool × Int) => f_laws_eqIntS.l0 N p.1 p.2.1 p.2.2.1 p.2.2.2⟩
noncomputable abbrev K27 : Cons := []
noncomputable abbrev L27 : List (Nat × Loops) := [(27, [(4, f_laws_eqIntS.l0.c)])]
abbrev Q27 : List (Nat × List (Int × Nat) × Nat) := []
noncomputable abbrev X27 : Nat → Ctx := ctxOf tb K27 L27 Q27
theorem f_laws_eqIntS.l0.ok : ∀ n p, (fun (p : List Int × List Int × Bool × Int) => f_laws_eqIntS.l0 n p.1 p.2.1 p.2.2.1 p.2.2.2) p = iterD (roundOf fs X27 6 27 4 false f_laws_eqIntS.l0.c) n p :=
  iter_of (l := fun n => fun (p : List Int × List Int × Bool × Int) => f_laws_eqIntS.l0 n p.1 p.2.1 p.2.2.1 p.2.2.2) (fun _ => rfl) (fun n p => by kernel_rfl)
theorem E27 : ∀ x, funRun fs X27 6 27 C27 x = C27.fn x := fun x => by kernel_rfl
theorem B27 : ConB Try.prog 27 C27 := ConB.make FS MIX TY (cons := K27) (L := L27) (ptrs := Q27) trivial trivial ⟨⟨⟨N, fun p => f_laws_eqIntS.l0.ok N p⟩, trivial⟩, trivial⟩ rfl rfl E27
theorem S27 : ConS Try.prog 27 C27 := B27.call rfl
/-! laws.markIntS: function 28 -/
noncomputable def f_laws_markIntS.l0 : Nat → Int → Int → Int → (List Int) → Option (Int × Int × List Int)
  | 0, _, _, _, _ => none
  | n + 1, p84, p85, p86, p87 =>
    bif (decide (p86 < (p87.length : Int))) then
      bif ((decide ((0 : Int) ≤ p86)) && (decide (p86 < (p87.length : Int)))) then
      (some ((p87.set p86.toNat p84) : List Int)).bind fun z88 =>
      f_laws_markIntS.l0 n (IntKind.wrap .i64 (p84 + (1 : Int))) p85 (IntKind.wrap .i64 (p86 + (1 : Int))) z88
      else none
    else
      some (p84, p85, p87)
noncomputable def f_laws_markIntS (x0 : List Int) (x1 : Int) : Option (Int × List Int) :=
  (f_laws_markIntS.l0 N x1 0 0 x0).bind fun r89 =>
  some (r89.1, r89.2.2)
noncomputable def C28 : Con := ⟨[(.I, false, [(.sl R0)]), (.B, false, [(.int .i64)])], [(false, [(.int .i64)])], [(.sl R0), (.int .i64)], [(.int .i64), (.sl R0)], fun (p : List Int × Int) => f_laws_markIntS p.1 p.2⟩
noncomputable def f_laws_markIntS.l0.c : LoopCon := ⟨1000, 6, [0, 1, 4, 5], ⟨[(0, .ref 0 [] none), (1, .int .i64 0), (4, .int .i64 0), (5, .int .i64 0)], [(0, .row R0 [])], 1000⟩, [(.int .i64), (.int .i64), (.int .i64), (.sl R0)], [⟨.exit 0, [1, 4], ⟨[(1, .int .i64 0), (4, .int .i64 0)], [(0, .row R0 [])], 1000⟩, [(.int .i64), (.int .i64), (.sl R0)]⟩], fun (p : Int × Int × Int × List Int) => f_laws_markIntS.l0 N p.1 p.2.1 p.2.2.1 p.2.2.2⟩
noncomputable abbrev K28 : Cons := []
noncomputable abbrev L28 : List (Nat × Loops) := [(28, [(2, f_laws_markIntS.l0.c)])]
abbrev Q28 : List (Nat × List (Int × Nat) × Nat) := []
noncomputable abbrev X28 : Nat → Ctx := ctxOf tb K28 L28 Q28
theorem f_laws_markIntS.l0.ok : ∀ n p, (fun (p : Int × Int × Int × List Int) => f_laws_markIntS.l0 n p.1 p.2.1 p.2.2.1 p.2.2.2) p = iterD (roundOf fs X28 6 28 2 false f_laws_markIntS.l0.c) n p :=
  iter_of (l := fun n => fun (p : Int × Int × Int × List Int) => f_laws_markIntS.l0 n p.1 p.2.1 p.2.2.1 p.2.2.2) (fun _ => rfl) (fun n p => by kernel_rfl)
theorem E28 : ∀ x, funG fs X28 6 28 C28 x = C28.fn x := fun x => by kernel_rfl
theorem B28 : ConG Try.prog 28 C28 := ConG.make FS MIX TY (cons := K28) (L := L28) (ptrs := Q28) trivial trivial ⟨⟨⟨N, fun p => f_laws_markIntS.l0.ok N p⟩, trivial⟩, trivial⟩ rfl (by kernel_rfl) E28
theorem S28 : ConS Try.prog 28 C28 := B28.call (by kernel_rfl)
/-! laws.markInsS: function 97 -/
noncomputable def f_laws_markInsS.l0 : Nat → Int → Int → Int → (List (Int × Int × Int × Int × Int)) → Option (Int × Int × (List (Int × Int × Int × Int × Int)))
  | 0, _, _, _, _ => none
  | n + 1, p90, p91, p92, p93 =>
    bif (decide (p92 < (p93.length : Int))) then
      bif ((decide ((0 : Int) ≤ p92)) && (decide (p92 < (p93.length : Int)))) then
      (some ((p93.set p92.toNat (p90, (p93.getD p92.toNat (0, 0, 0, 0, 0)).2.1, (p93.getD p92.toNat (0, 0, 0, 0, 0)).2.2.1, (p93.getD p92.toNat (0, 0, 0, 0, 0)).2.2.2.1, (p93.getD p92.toNat (0, 0, 0, 0, 0)).2.2.2.2)) : List (Int × Int × Int × Int × Int))).bind fun z94 =>
      bif ((decide ((0 : Int) ≤ p92)) && (decide (p92 < (z94.length : Int)))) then
      (some ((z94.set p92.toNat ((z94.getD p92.toNat (0, 0, 0, 0, 0)).1, (IntKind.wrap .i64 (p90 + (1 : Int))), (z94.getD p92.toNat (0, 0, 0, 0, 0)).2.2.1, (z94.getD p92.toNat (0, 0, 0, 0, 0)).2.2.2.1, (z94.getD p92.toNat (0, 0, 0, 0, 0)).2.2.2.2)) : List (Int × Int × Int × Int × Int))).bind fun z95 =>
      bif ((decide ((0 : Int) ≤ p92)) && (decide (p92 < (z95.length : Int)))) then
      (some ((z95.set p92.toNat ((z95.getD p92.toNat (0, 0, 0, 0, 0)).1, (z95.getD p92.toNat (0, 0, 0, 0, 0)).2.1, (IntKind.wrap .i64 ((IntKind.wrap .i64 (p90 + (1 : Int))) + (1 : Int))), (z95.getD p92.toNat (0, 0, 0, 0, 0)).2.2.2.1, (z95.getD p92.toNat (0, 0, 0, 0, 0)).2.2.2.2)) : List (Int × Int × Int × Int × Int))).bind fun z96 =>
      bif ((decide ((0 : Int) ≤ p92)) && (decide (p92 < (z96.length : Int)))) then
      (some ((z96.set p92.toNat ((z96.getD p92.toNat (0, 0, 0, 0, 0)).1, (z96.getD p92.toNat (0, 0, 0, 0, 0)).2.1, (z96.getD p92.toNat (0, 0, 0, 0, 0)).2.2.1, (IntKind.wrap .i64 ((IntKind.wrap .i64 ((IntKind.wrap .i64 (p90 + (1 : Int))) + (1 : Int))) + (1 : Int))), (z96.getD p92.toNat (0, 0, 0, 0, 0)).2.2.2.2)) : List (Int × Int × Int × Int × Int))).bind fun z97 =>
      bif ((decide ((0 : Int) ≤ p92)) && (decide (p92 < (z97.length : Int)))) then
      (some ((z97.set p92.toNat ((z97.getD p92.toNat (0, 0, 0, 0, 0)).1, (z97.getD p92.toNat (0, 0, 0, 0, 0)).2.1, (z97.getD p92.toNat (0, 0, 0, 0, 0)).2.2.1, (z97.getD p92.toNat (0, 0, 0, 0, 0)).2.2.2.1, (IntKind.wrap .i64 ((IntKind.wrap .i64 ((IntKind.wrap .i64 ((IntKind.wrap .i64 (p90 + (1 : Int))) + (1 : Int))) + (1 : Int))) + (1 : Int))))) : List (Int × Int × Int × Int × Int))).bind fun z98 =>
      f_laws_markInsS.l0 n (IntKind.wrap .i64 ((IntKind.wrap .i64 ((IntKind.wrap .i64 ((IntKind.wrap .i64 ((IntKind.wrap .i64 (p90 + (1 : Int))) + (1 : Int))) + (1 : Int))) + (1 : Int))) + (1 : Int))) p91 (IntKind.wrap .i64 (p92 + (1 : Int))) z98
      else none
      else none
      else none
      else none
      else none
    else
      some (p90, p91, p93)
noncomputable def f_laws_markInsS (x0 : List (Int × Int × Int × Int × Int)) (x1 : Int) : Option (Int × (List (Int × Int × Int × Int × Int))) :=
  (f_laws_markInsS.l0 N x1 0 0 x0).bind fun r99 =>
  some (r99.1, r99.2.2)
noncomputable def C97 : Con := ⟨[(.I, false, [(.sl R1)]), (.B, false, [(.int .i64)])], [(false, [(.int .i64)])], [(.sl R1), (.int .i64)], [(.int .i64), (.sl R1)], fun (p : (List (Int × Int × Int × Int × Int)) × Int) => f_laws_markInsS p.1 p.2⟩
noncomputable def f_laws_markInsS.l0.c : LoopCon := ⟨1000, 6, [0, 1, 4, 5], ⟨[(0, .ref 0 [] none), (1, .int .i64 0), (4, .int .i64 0), (5, .int .i64 0)], [(0, .row R1 [])], 1000⟩, [(.int .i64), (.int .i64), (.int .i64), (.sl R1)], [⟨.exit 0, [1, 4], ⟨[(1, .int .i64 0), (4, .int .i64 0)], [(0, .row R1 [])], 1000⟩, [(.int .i64), (.int .i64), (.sl R1)]⟩], fun (p : Int × Int × Int × (List (Int × Int × Int × Int × Int))) => f_laws_markInsS.l0 N p.1 p.2.1 p.2.2.1 p.2.2.2⟩
noncomputable abbrev K97 : Cons := []
noncomputable abbrev L97 : List (Nat × Loops) := [(97, [(2, f_laws_markInsS.l0.c)])]
abbrev Q97 : List (Nat × List (Int × Nat) × Nat) := []
noncomputable abbrev X97 : Nat → Ctx := ctxOf tb K97 L97 Q97
theorem f_laws_markInsS.l0.ok : ∀ n p, (fun (p : Int × Int × Int × (List (Int × Int × Int × Int × Int))) => f_laws_markInsS.l0 n p.1 p.2.1 p.2.2.1 p.2.2.2) p = iterD (roundOf fs X97 6 97 2 false f_laws_markInsS.l0.c) n p :=
  iter_of (l := fun n => fun (p : Int × Int × Int × (List (Int × Int × Int × Int × Int))) => f_laws_markInsS.l0 n p.1 p.2.1 p.2.2.1 p.2.2.2) (fun _ => rfl) (fun n p => by kernel_rfl)
theorem E97 : ∀ x, funG fs X97 6 97 C97 x = C97.fn x := fun x => by kernel_rfl
theorem B97 : ConG Try.prog 97 C97 := ConG.make FS MIX TY (cons := K97) (L := L97) (ptrs := Q97) trivial trivial ⟨⟨⟨N, fun p => f_laws_markInsS.l0.ok N p⟩, trivial⟩, trivial⟩ rfl (by kernel_rfl) E97
theorem S97 : ConS Try.prog 97 C97 := B97.call (by kernel_rfl)
/-! laws.markBlock: function 29 -/
noncomputable def f_laws_markBlock (x0 : Int) (x1 : List (Int × Int × Int × Int × Int)) (x2 : Int) : Option (Int × (List (Int × Int × Int × Int × Int))) :=
  (f_laws_markInsS x1 x2).bind fun y100 =>
  (some (y100.2 : List (Int × Int × Int × Int × Int))).bind fun z101 =>
  some (y100.1, z101)
noncomputable def C29 : Con := ⟨[(.I, true, [(.int .i64), (.sl R1)]), (.B, false, [(.int .i64)])], [(false, [(.int .i64)])], [(.int .i64), (.sl R1), (.int .i64)], [(.int .i64), (.sl R1)], fun (p : Int × (List (Int × Int × Int × Int × Int)) × Int) => f_laws_markBlock p.1 p.2.1 p.2.2⟩
noncomputable abbrev K29 : Cons := [(97, C97)]
noncomputable abbrev L29 : List (Nat × Loops) := []
abbrev Q29 : List (Nat × List (Int × Nat) × Nat) := []
noncomputable abbrev X29 : Nat → Ctx := ctxOf tb K29 L29 Q29
theorem E29 : ∀ x, funG fs X29 6 29 C29 x = C29.fn x := fun x => by kernel_rfl
theorem B29 : ConG Try.prog 29 C29 := ConG.make FS MIX TY (cons := K29) (L := L29) (ptrs := Q29) ⟨S97, trivial⟩ trivial trivial rfl (by kernel_rfl) E29
theorem S29 : ConS Try.prog 29 C29 := B29.call (by kernel_rfl)
/-! laws.heldInsS: function 98 -/
noncomputable def f_laws_heldInsS.l0 : Nat → (List (Int × Int × Int × Int × Int)) → Int → Int → Int → Option ((Int) ⊕ (Int × Int))
  | 0, _, _, _, _ => none
  | n + 1, p102, p103, p104, p105 =>
    bif (decide (p105 < (p102.length : Int))) then
      bif ((decide ((0 : Int) ≤ p105)) && (decide (p105 < (p102.length : Int)))) then
      bif (!(decide (((p102.getD p105.toNat (0, 0, 0, 0, 0)).1) = p103))) then
        some (.inl (-1))
      else
        bif ((decide ((0 : Int) ≤ p105)) && (decide (p105 < (p102.length : Int)))) then
        bif (!(decide (((p102.getD p105.toNat (0, 0, 0, 0, 0)).2.1) = (IntKind.wrap .i64 (p103 + (1 : Int)))))) then
          some (.inl (-1))
        else
          bif ((decide ((0 : Int) ≤ p105)) && (decide (p105 < (p102.length : Int)))) then
          bif (!(decide (((p102.getD p105.toNat (0, 0, 0, 0, 0)).2.2.1) = (IntKind.wrap .i64 ((IntKind.wrap .i64 (p103 + (1 : Int))) + (1 : Int)))))) then
            some (.inl (-1))
          else
            bif ((decide ((0 : Int) ≤ p105)) && (decide (p105 < (p102.length : Int)))) then
            bif (!(decide (((p102.getD p105.toNat (0, 0, 0, 0, 0)).2.2.2.1) = (IntKind.wrap .i64 ((IntKind.wrap .i64 ((IntKind.wrap .i64 (p103 + (1 : Int))) + (1 : Int))) + (1 : Int)))))) then
              some (.inl (-1))
            else
              bif ((decide ((0 : Int) ≤ p105)) && (decide (p105 < (p102.length : Int)))) then
              bif (!(decide (((p102.getD p105.toNat (0, 0, 0, 0, 0)).2.2.2.2) = (IntKind.wrap .i64 ((IntKind.wrap .i64 ((IntKind.wrap .i64 ((IntKind.wrap .i64 (p103 + (1 : Int))) + (1 : Int))) + (1 : Int))) + (1 : Int)))))) then
                some (.inl (-1))
              else
                f_laws_heldInsS.l0 n p102 (IntKind.wrap .i64 ((IntKind.wrap .i64 ((IntKind.wrap .i64 ((IntKind.wrap .i64 ((IntKind.wrap .i64 (p103 + (1 : Int))) + (1 : Int))) + (1 : Int))) + (1 : Int))) + (1 : Int))) p104 (IntKind.wrap .i64 (p105 + (1 : Int)))
              else none
            else none
          else none
        else none
      else none
    else
      some (.inr (p103, p104))
noncomputable def f_laws_heldInsS (x0 : List (Int × Int × Int × Int × Int)) (x1 : Int) : Option (Int) :=
  (f_laws_heldInsS.l0 N x0 x1 0 0).bind fun r106 =>
  cs r106 (fun a107 =>
    some a107) (fun b108 =>
    some b108.1)
noncomputable def C98 : Con := ⟨[(.B, false, [(.sl R1)]), (.B, false, [(.int .i64)])], [(false, [(.int .i64)])], [(.sl R1), (.int .i64)], [(.int .i64)], fun (p : (List (Int × Int × Int × Int × Int)) × Int) => f_laws_heldInsS p.1 p.2⟩
noncomputable def f_laws_heldInsS.l0.c : LoopCon := ⟨1000, 6, [0, 1, 4, 5], ⟨[(0, .bor none R1 []), (1, .int .i64 0), (4, .int .i64 0), (5, .int .i64 0)], [], 1000⟩, [(.sl R1), (.int .i64), (.int .i64), (.int .i64)], [⟨.ret, [4], ⟨[(4, .int .i64 0)], [], 1000⟩, [(.int .i64)]⟩, ⟨.exit 0, [1, 4], ⟨[(1, .int .i64 0), (4, .int .i64 0)], [], 1000⟩, [(.int .i64), (.int .i64)]⟩], fun (p : (List (Int × Int × Int × Int × Int)) × Int × Int × Int) => f_laws_heldInsS.l0 N p.1 p.2.1 p.2.2.1 p.2.2.2⟩
noncomputable abbrev K98 : Cons := []
noncomputable abbrev L98 : List (Nat × Loops) := [(98, [(2, f_laws_heldInsS.l0.c)])]
abbrev Q98 : List (Nat × List (Int × Nat) × Nat) := []
noncomputable abbrev X98 : Nat → Ctx := ctxOf tb K98 L98 Q98
theorem f_laws_heldInsS.l0.ok : ∀ n p, (fun (p : (List (Int × Int × Int × Int × Int)) × Int × Int × Int) => f_laws_heldInsS.l0 n p.1 p.2.1 p.2.2.1 p.2.2.2) p = iterD (roundOf fs X98 6 98 2 false f_laws_heldInsS.l0.c) n p :=
  iter_of (l := fun n => fun (p : (List (Int × Int × Int × Int × Int)) × Int × Int × Int) => f_laws_heldInsS.l0 n p.1 p.2.1 p.2.2.1 p.2.2.2) (fun _ => rfl) (fun n p => by kernel_rfl)
theorem E98 : ∀ x, funRun fs X98 6 98 C98 x = C98.fn x := fun x => by kernel_rfl
theorem B98 : ConB Try.prog 98 C98 := ConB.make FS MIX TY (cons := K98) (L := L98) (ptrs := Q98) trivial trivial ⟨⟨⟨N, fun p => f_laws_heldInsS.l0.ok N p⟩, trivial⟩, trivial⟩ rfl rfl E98
theorem S98 : ConS Try.prog 98 C98 := B98.call rfl
/-! laws.heldBlock: function 30 -/
noncomputable def f_laws_heldBlock (x0 : Int) (x1 : List (Int × Int × Int × Int × Int)) (x2 : Int) : Option (Int) :=
  (f_laws_heldInsS x1 x2).bind fun y109 =>
  bif (decide (y109 < (0 : Int))) then
    some (-1)
  else
    some y109
noncomputable def C30 : Con := ⟨[(.B, true, [(.int .i64), (.sl R1)]), (.B, false, [(.int .i64)])], [(false, [(.int .i64)])], [(.int .i64), (.sl R1), (.int .i64)], [(.int .i64)], fun (p : Int × (List (Int × Int × Int × Int × Int)) × Int) => f_laws_heldBlock p.1 p.2.1 p.2.2⟩
noncomputable abbrev K30 : Cons := [(98, C98)]
noncomputable abbrev L30 : List (Nat × Loops) := []
abbrev Q30 : List (Nat × List (Int × Nat) × Nat) := []
noncomputable abbrev X30 : Nat → Ctx := ctxOf tb K30 L30 Q30
theorem E30 : ∀ x, funRun fs X30 6 30 C30 x = C30.fn x := fun x => by kernel_rfl
theorem B30 : ConB Try.prog 30 C30 := ConB.make FS MIX TY (cons := K30) (L := L30) (ptrs := Q30) ⟨S98, trivial⟩ trivial trivial rfl rfl E30
theorem S30 : ConS Try.prog 30 C30 := B30.call rfl
/-! laws.FnExactBlockOf: function 4 -/
noncomputable def f_laws_FnExactBlockOf (x0 : List Int) (x1 : Int) : Option (Bool) :=
  bif (decide ((1048576 : Int) < (x0.length : Int))) then
    some true
  else
    (f_laws_toIntS x0).bind fun y110 =>
    (f_spec_BlockOf y110 x1).bind fun y111 =>
    (f_laws_toIntS x0).bind fun y112 =>
    (f_impl_BlockOf y112 x1).bind fun y113 =>
    (f_laws_eqBlock y113.1 y113.2 y111.1 y111.2).bind fun y114 =>
    bif (!y114) then
      some false
    else
      (f_laws_toIntS x0).bind fun y115 =>
      (f_laws_eqIntS y112 y115).bind fun y116 =>
      bif (!y116) then
        some false
      else
        (f_laws_markIntS y112 1).bind fun y117 =>
        (some (y117.2 : List Int)).bind fun z118 =>
        bif (decide (y117.1 < (0 : Int))) then
          some false
        else
          (f_laws_eqBlock y113.1 y113.2 y111.1 y111.2).bind fun y119 =>
          bif (!y119) then
            some false
          else
            (f_laws_markBlock y113.1 y113.2 1).bind fun y120 =>
            (some (y120.2 : List (Int × Int × Int × Int × Int))).bind fun z121 =>
            (f_laws_heldBlock y113.1 z121 1).bind fun y122 =>
            bif (decide (y122 < (0 : Int))) then
              some false
            else
              bif (!(decide (y122 = y120.1))) then
                some false
              else
                (f_laws_toIntS x0).bind fun y123 =>
                (f_impl_BlockOf y123 x1).bind fun y124 =>
                (f_laws_eqBlock y124.1 y124.2 y111.1 y111.2).bind fun y125 =>
                bif (!y125) then
                  some false
                else
                  (f_laws_heldBlock y113.1 z121 1).bind fun y126 =>
                  bif (decide (y126 < (0 : Int))) then
                    some false
                  else
                    bif (!(decide (y126 = y120.1))) then
                      some false
                    else
                      some true
noncomputable def C4 : Con := ⟨[(.B, false, [(.sl R0)]), (.B, false, [(.int .i64)])], [(false, [.bool])], [(.sl R0), (.int .i64)], [.bool], fun (p : List Int × Int) => f_laws_FnExactBlockOf p.1 p.2⟩
noncomputable abbrev K4 : Cons := [(23, C23), (24, C24), (25, C25), (26, C26), (27, C27), (28, C28), (29, C29), (30, C30)]
noncomputable abbrev L4 : List (Nat × Loops) := []
abbrev Q4 : List (Nat × List (Int × Nat) × Nat) := []
noncomputable abbrev X4 : Nat → Ctx := ctxOf tb K4 L4 Q4
theorem E4 : ∀ x, funRun fs X4 6 4 C4 x = C4.fn x := fun x => by kernel_rfl
theorem B4 : ConB Try.prog 4 C4 := ConB.make FS MIX TY (cons := K4) (L := L4) (ptrs := Q4) ⟨S23, S24, S25, S26, S27, S28, S29, S30, trivial⟩ trivial trivial rfl rfl E4
theorem S4 : ConS Try.prog 4 C4 := B4.call rfl
/-- What is left: the plain law. -/
def Pure : Prop := ∀ x : Tup [(.sl R0), (.int .i64)], WfT [(.sl R0), (.int .i64)] x → C4.fn x = some (true : Bool)
end
end Go.Abs
