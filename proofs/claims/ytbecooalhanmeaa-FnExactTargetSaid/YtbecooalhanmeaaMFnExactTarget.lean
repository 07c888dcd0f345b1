import Derived.Test.YtbecooalhanmeaaProg
import Derived.Test.YtbecooalhanmeaaAbsC
import Derived.KernelRfl
namespace Go.Abs
open Go.Proofs
set_option linter.unusedVariables false
set_option maxRecDepth 100000
noncomputable section
abbrev N : Nat := 1152921504606846976
abbrev R0 : RT := .one (.int .i64)
noncomputable def tb : Tb := [(0, ⟨false, [], [], 0, 0⟩),
  (3, ⟨false, [(.int .i64)], [], 0, 8⟩),
  (4, ⟨false, [.bool], [], 0, 1⟩),
  (5, ⟨false, [(.int .u8)], [], 0, 1⟩),
  (9, ⟨false, [.str], [], 0, 16⟩),
  (22, ⟨false, [(.sl R0)], [], 3, 24⟩),
  (41, ⟨true, [(.int .i64), (.int .i64), (.int .i64), (.int .i64), (.int .i64)], [(0, 3), (1, 3), (2, 3), (3, 3), (4, 3)], 0, 40⟩),
  (43, ⟨true, [(.int .i64), (.int .i64), (.int .i64), (.int .i64), (.int .i64)], [(0, 3), (1, 3), (2, 3), (3, 3), (4, 3)], 0, 40⟩),
  (141, ⟨false, [], [], 0, 0⟩),
  (143, ⟨false, [], [], 0, 8⟩),
  (148, ⟨false, [], [], 0, 8⟩)]
noncomputable def fsL : List (Nat × Func) := [(26, Try.f26), (27, Try.f27), (69, Try.f69), (115, Try.f115), (116, Try.f116), (76, Try.f76), (77, Try.f77), (25, Try.f25), (117, Try.f117), (118, Try.f118), (71, Try.f71), (78, Try.f78), (79, Try.f79), (80, Try.f80), (28, Try.f28), (29, Try.f29), (5, Try.f5)]
noncomputable def fs : Nat → Option Func := getF fsL
theorem MIX : Try.prog.follows .mixedOrders = true := by kernel_rfl
theorem TY : tyCheck Try.prog tb = true := by kernel_rfl
theorem CAT : catCheck tb = true := by kernel_rfl
theorem FSP : FsP Try.prog fsL := ⟨Try.func26, Try.func27, Try.func69, Try.func115, Try.func116, Try.func76, Try.func77, Try.func25, Try.func117, Try.func118, Try.func71, Try.func78, Try.func79, Try.func80, Try.func28, Try.func29, Try.func5, trivial⟩
theorem FSC : (fsL.all fun p => fnChk p.2) = true := by kernel_rfl
theorem FS : FsS Try.prog fs := FsS.of FSP FSC
theorem PT118 : PtrS Try.prog 118 [(82, 1), (65, 2), (66, 3)] 4 := PtrS.make FS MIX TY (cons := []) (L := []) (ptrs := []) trivial trivial trivial rfl (fun l => by kernel_rfl)
/-! laws.toIns: function 26 -/
noncomputable def f_laws_toIns (x0 : Int) (x1 : Int) (x2 : Int) (x3 : Int) (x4 : Int) : Option (Int × Int × Int × Int × Int) :=
  some (x0, x1, x2, x3, x4)
noncomputable def C26 : Con := ⟨[(.B, true, [(.int .i64), (.int .i64), (.int .i64), (.int .i64), (.int .i64)])], [(true, [(.int .i64), (.int .i64), (.int .i64), (.int .i64), (.int .i64)])], [(.int .i64), (.int .i64), (.int .i64), (.int .i64), (.int .i64)], [(.int .i64), (.int .i64), (.int .i64), (.int .i64), (.int .i64)], fun (p : Int × Int × Int × Int × Int) => f_laws_toIns p.1 p.2.1 p.2.2.1 p.2.2.2.1 p.2.2.2.2⟩
noncomputable abbrev K26 : Cons := []
noncomputable abbrev L26 : List (Nat × Loops) := []
abbrev Q26 : List (Nat × List (Int × Nat) × Nat) := []
noncomputable abbrev X26 : Nat → Ctx := ctxOf tb K26 L26 Q26
theorem E26 : ∀ x, funRun fs X26 6 26 C26 x = C26.fn x := fun x => by kernel_rfl
theorem B26 : ConB Try.prog 26 C26 := ConB.make FS MIX TY (cons := K26) (L := L26) (ptrs := Q26) trivial trivial trivial rfl rfl E26
theorem S26 : ConS Try.prog 26 C26 := B26.call rfl
/-! laws.toIntS: function 27 -/
noncomputable def f_laws_toIntS.l0 : Nat → (List Int) → Int → (List Int) → Option (List Int)
  | 0, _, _, _ => none
  | n + 1, p1, p2, p3 =>
    bif (decide (p2 < (p1.length : Int))) then
      bif ((decide ((0 : Int) ≤ p2)) && (decide (p2 < (p1.length : Int)))) then
      bif ((decide ((0 : Int) ≤ p2)) && (decide (p2 < (p3.length : Int)))) then
      (some ((p3.set p2.toNat (p1.getD p2.toNat 0)) : List Int)).bind fun z4 =>
      f_laws_toIntS.l0 n p1 (IntKind.wrap .i64 (p2 + (1 : Int))) z4
      else none
      else none
    else
      some p3
noncomputable def f_laws_toIntS (x0 : List Int) : Option (List Int) :=
  bif (decide ((0 : Int) ≤ (x0.length : Int)) && Nat.ble (x0.length : Int).toNat 17592186044416) then
  (f_laws_toIntS.l0 N x0 0 (List.replicate (x0.length : Int).toNat 0)).bind fun r5 =>
  some r5
  else none
noncomputable def C27 : Con := ⟨[(.B, false, [(.sl R0)])], [(false, [(.sl R0)])], [(.sl R0)], [(.sl R0)], fun (p : List Int) => f_laws_toIntS p⟩
noncomputable def f_laws_toIntS.l0.c : LoopCon := ⟨1000, 6, [0, 2, 3, 4], ⟨[(0, .bor none R0 []), (2, .nil (some R0)), (3, .ref 1000 [] none), (4, .int .i64 0)], [(1000, .row R0 [])], 1001⟩, [(.sl R0), (.int .i64), (.sl R0)], [⟨.exit 0, [2, 3], ⟨[(2, .nil (some R0)), (3, .ref 1000 [] none)], [(1000, .row R0 [])], 1001⟩, [(.sl R0)]⟩], fun (p : List Int × Int × List Int) => f_laws_toIntS.l0 N p.1 p.2.1 p.2.2⟩
noncomputable abbrev K27 : Cons := []
noncomputable abbrev L27 : List (Nat × Loops) := [(27, [(3, f_laws_toIntS.l0.c)])]
abbrev Q27 : List (Nat × List (Int × Nat) × Nat) := []
noncomputable abbrev X27 : Nat → Ctx := ctxOf tb K27 L27 Q27
theorem f_laws_toIntS.l0.ok : ∀ n p, (fun (p : List Int × Int × List Int) => f_laws_toIntS.l0 n p.1 p.2.1 p.2.2) p = iterD (roundOf fs X27 6 27 3 false f_laws_toIntS.l0.c) n p :=
  iter_of (l := fun n => fun (p : List Int × Int × List Int) => f_laws_toIntS.l0 n p.1 p.2.1 p.2.2) (fun _ => rfl) (fun n p => by kernel_rfl)
theorem E27 : ∀ x, funRun fs X27 6 27 C27 x = C27.fn x := fun x => by kernel_rfl
theorem B27 : ConB Try.prog 27 C27 := ConB.make FS MIX TY (cons := K27) (L := L27) (ptrs := Q27) trivial trivial ⟨⟨⟨N, fun p => f_laws_toIntS.l0.ok N p⟩, trivial⟩, trivial⟩ rfl rfl E27
theorem S27 : ConS Try.prog 27 C27 := B27.call rfl
/-! spec.l1In: function 69 -/
noncomputable def f_spec_l1In (x0 : Int) (x1 : Int) (x2 : Int) : Option (Bool) :=
  bif (decide (x1 ≤ x0)) then
    some (decide (x0 ≤ x2))
  else
    some false
noncomputable def C69 : Con := ⟨[(.B, false, [(.int .i64)]), (.B, false, [(.int .i64)]), (.B, false, [(.int .i64)])], [(false, [.bool])], [(.int .i64), (.int .i64), (.int .i64)], [.bool], fun (p : Int × Int × Int) => f_spec_l1In p.1 p.2.1 p.2.2⟩
noncomputable abbrev K69 : Cons := []
noncomputable abbrev L69 : List (Nat × Loops) := []
abbrev Q69 : List (Nat × List (Int × Nat) × Nat) := []
noncomputable abbrev X69 : Nat → Ctx := ctxOf tb K69 L69 Q69
theorem E69 : ∀ x, funRun fs X69 6 69 C69 x = C69.fn x := fun x => by kernel_rfl
theorem B69 : ConB Try.prog 69 C69 := ConB.make FS MIX TY (cons := K69) (L := L69) (ptrs := Q69) trivial trivial trivial rfl rfl E69
theorem S69 : ConS Try.prog 69 C69 := B69.call rfl
/-! spec.l8Has: function 115 -/
noncomputable def f_spec_l8Has (x0 : Int) : Option (Int) :=
  (f_spec_l1In x0 1 10).bind fun y6 =>
  bif (!y6) then
    some 0
  else
    bif ((decide ((0 : Int) ≤ x0)) && (decide (x0 < (([0, 9, 7, 11, 11, 14, 15, 10, 8, 0, 7] : List Int).length : Int)))) then
    some (([0, 9, 7, 11, 11, 14, 15, 10, 8, 0, 7] : List Int).getD x0.toNat 0)
    else none
noncomputable def C115 : Con := ⟨[(.B, false, [(.int .i64)])], [(false, [(.int .i64)])], [(.int .i64)], [(.int .i64)], fun (p : Int) => f_spec_l8Has p⟩
noncomputable abbrev K115 : Cons := [(69, C69)]
noncomputable abbrev L115 : List (Nat × Loops) := []
abbrev Q115 : List (Nat × List (Int × Nat) × Nat) := []
noncomputable abbrev X115 : Nat → Ctx := ctxOf tb K115 L115 Q115
theorem E115 : ∀ x, funRun fs X115 6 115 C115 x = C115.fn x := fun x => by kernel_rfl
theorem B115 : ConB Try.prog 115 C115 := ConB.make FS MIX TY (cons := K115) (L := L115) (ptrs := Q115) ⟨S69, trivial⟩ trivial trivial rfl rfl E115
theorem S115 : ConS Try.prog 115 C115 := B115.call rfl
/-! spec.l8Field: function 116 -/
noncomputable def f_spec_l8Field (x0 : Int) (x1 : Int) (x2 : Bool) : Option (Bool) :=
  (f_spec_l1In x0 0 x1).bind fun y7 =>
  bif y7 then
    bif x2 then
      some true
    else
      some (decide (x0 = (0 : Int)))
  else
    some false
noncomputable def C116 : Con := ⟨[(.B, false, [(.int .i64)]), (.B, false, [(.int .i64)]), (.B, false, [.bool])], [(false, [.bool])], [(.int .i64), (.int .i64), .bool], [.bool], fun (p : Int × Int × Bool) => f_spec_l8Field p.1 p.2.1 p.2.2⟩
noncomputable abbrev K116 : Cons := [(69, C69)]
noncomputable abbrev L116 : List (Nat × Loops) := []
abbrev Q116 : List (Nat × List (Int × Nat) × Nat) := []
noncomputable abbrev X116 : Nat → Ctx := ctxOf tb K116 L116 Q116
theorem E116 : ∀ x, funRun fs X116 6 116 C116 x = C116.fn x := fun x => by kernel_rfl
theorem B116 : ConB Try.prog 116 C116 := ConB.make FS MIX TY (cons := K116) (L := L116) (ptrs := Q116) ⟨S69, trivial⟩ trivial trivial rfl rfl E116
theorem S116 : ConS Try.prog 116 C116 := B116.call rfl
/-! spec.InsOk: function 76 -/
noncomputable def f_spec_InsOk (x0 : Int) (x1 : Int) (x2 : Int) (x3 : Int) (x4 : Int) : Option (Bool) :=
  (f_spec_l8Has x0).bind fun y8 =>
  (f_spec_l1In x0 1 10).bind fun y9 =>
  bif y9 then
    (f_spec_l8Field x1 3 (!(decide ((bitI .and .i64 y8 (1 : Int)) = (0 : Int))))).bind fun y10 =>
    bif y10 then
      (f_spec_l8Field x2 3 (!(decide ((bitI .and .i64 y8 (2 : Int)) = (0 : Int))))).bind fun y11 =>
      bif y11 then
        (f_spec_l8Field x3 3 (!(decide ((bitI .and .i64 y8 (4 : Int)) = (0 : Int))))).bind fun y12 =>
        bif y12 then
          (f_spec_l8Field x4 63 (!(decide ((bitI .and .i64 y8 (8 : Int)) = (0 : Int))))).bind fun y13 =>
          some y13
        else
          some false
      else
        some false
    else
      some false
  else
    some false
noncomputable def C76 : Con := ⟨[(.B, true, [(.int .i64), (.int .i64), (.int .i64), (.int .i64), (.int .i64)])], [(false, [.bool])], [(.int .i64), (.int .i64), (.int .i64), (.int .i64), (.int .i64)], [.bool], fun (p : Int × Int × Int × Int × Int) => f_spec_InsOk p.1 p.2.1 p.2.2.1 p.2.2.2.1 p.2.2.2.2⟩
noncomputable abbrev K76 : Cons := [(69, C69), (115, C115), (116, C116)]
noncomputable abbrev L76 : List (Nat × Loops) := []
abbrev Q76 : List (Nat × List (Int × Nat) × Nat) := []
noncomputable abbrev X76 : Nat → Ctx := ctxOf tb K76 L76 Q76
theorem E76 : ∀ x, funRun fs X76 6 76 C76 x = C76.fn x := fun x => by kernel_rfl
theorem B76 : ConB Try.prog 76 C76 := ConB.make FS MIX TY (cons := K76) (L := L76) (ptrs := Q76) ⟨S69, S115, S116, trivial⟩ trivial trivial rfl rfl E76
theorem S76 : ConS Try.prog 76 C76 := B76.call rfl
/-! spec.l9Address: function 77 -/
noncomputable def f_spec_l9Address (x0 : Int) : Option (Int) :=
  bif (decide ((Int.tmod x0 (24 : Int)) < (0 : Int))) then
    some (IntKind.wrap .i64 ((Int.tmod x0 (24 : Int)) + (24 : Int)))
  else
    some (Int.tmod x0 (24 : Int))
noncomputable def C77 : Con := ⟨[(.B, false, [(.int .i64)])], [(false, [(.int .i64)])], [(.int .i64)], [(.int .i64)], fun (p : Int) => f_spec_l9Address p⟩
noncomputable abbrev K77 : Cons := []
noncomputable abbrev L77 : List (Nat × Loops) := []
abbrev Q77 : List (Nat × List (Int × Nat) × Nat) := []
noncomputable abbrev X77 : Nat → Ctx := ctxOf tb K77 L77 Q77
theorem E77 : ∀ x, funRun fs X77 6 77 C77 x = C77.fn x := fun x => by kernel_rfl
theorem B77 : ConB Try.prog 77 C77 := ConB.make FS MIX TY (cons := K77) (L := L77) (ptrs := Q77) trivial trivial trivial rfl rfl E77
theorem S77 : ConS Try.prog 77 C77 := B77.call rfl
/-! spec.Target: function 25 -/
noncomputable def f_spec_Target (x0 : Int) (x1 : Int) (x2 : Int) (x3 : Int) (x4 : Int) (x5 : List Int) : Option (Int) :=
  (f_spec_InsOk x0 x1 x2 x3 x4).bind fun y14 =>
  bif (!y14) then
    some (-1)
  else
    bif (!(decide ((x5.length : Int) = (4 : Int)))) then
      some (-1)
    else
      bif (!(decide (x0 = (4 : Int)))) then
        bif (!(decide (x0 = (5 : Int)))) then
          bif (!(decide (x0 = (6 : Int)))) then
            some (-1)
          else
            bif ((decide ((0 : Int) ≤ x2)) && (decide (x2 < (x5.length : Int)))) then
            (f_spec_l9Address (IntKind.wrap .i64 ((x5.getD x2.toNat 0) + x4))).bind fun y15 =>
            some y15
            else none
        else
          bif ((decide ((0 : Int) ≤ x2)) && (decide (x2 < (x5.length : Int)))) then
          (f_spec_l9Address (IntKind.wrap .i64 ((x5.getD x2.toNat 0) + x4))).bind fun y16 =>
          some y16
          else none
      else
        bif ((decide ((0 : Int) ≤ x2)) && (decide (x2 < (x5.length : Int)))) then
        (f_spec_l9Address (IntKind.wrap .i64 ((x5.getD x2.toNat 0) + x4))).bind fun y17 =>
        some y17
        else none
noncomputable def C25 : Con := ⟨[(.B, true, [(.int .i64), (.int .i64), (.int .i64), (.int .i64), (.int .i64)]), (.B, false, [(.sl R0)])], [(false, [(.int .i64)])], [(.int .i64), (.int .i64), (.int .i64), (.int .i64), (.int .i64), (.sl R0)], [(.int .i64)], fun (p : Int × Int × Int × Int × Int × List Int) => f_spec_Target p.1 p.2.1 p.2.2.1 p.2.2.2.1 p.2.2.2.2.1 p.2.2.2.2.2⟩
noncomputable abbrev K25 : Cons := [(76, C76), (77, C77)]
noncomputable abbrev L25 : List (Nat × Loops) := []
abbrev Q25 : List (Nat × List (Int × Nat) × Nat) := []
noncomputable abbrev X25 : Nat → Ctx := ctxOf tb K25 L25 Q25
theorem E25 : ∀ x, funRun fs X25 6 25 C25 x = C25.fn x := fun x => by kernel_rfl
theorem B25 : ConB Try.prog 25 C25 := ConB.make FS MIX TY (cons := K25) (L := L25) (ptrs := Q25) ⟨S76, S77, trivial⟩ trivial trivial rfl rfl E25
theorem S25 : ConS Try.prog 25 C25 := B25.call rfl
/-! impl.form: function 117 -/
noncomputable def f_impl_form (x0 : Int) : Option (ByteArray × Bool) :=
  bif (decide (x0 = (1 : Int))) then
    some ((⟨#[82, 78]⟩ : ByteArray), true)
  else
    bif (decide (x0 = (2 : Int))) then
      some ((⟨#[82, 65, 66]⟩ : ByteArray), true)
    else
      bif (decide (x0 = (10 : Int))) then
        some ((⟨#[82, 65, 66]⟩ : ByteArray), true)
      else
        bif (decide (x0 = (3 : Int))) then
          some ((⟨#[82, 65, 78]⟩ : ByteArray), true)
        else
          bif (decide (x0 = (4 : Int))) then
            some ((⟨#[82, 65, 78]⟩ : ByteArray), true)
          else
            bif (decide (x0 = (5 : Int))) then
              some ((⟨#[65, 66, 78]⟩ : ByteArray), true)
            else
              bif (decide (x0 = (6 : Int))) then
                some ((⟨#[82, 65, 66, 78]⟩ : ByteArray), true)
              else
                bif (decide (x0 = (7 : Int))) then
                  some ((⟨#[65, 78]⟩ : ByteArray), true)
                else
                  bif (decide (x0 = (8 : Int))) then
                    some ((⟨#[78]⟩ : ByteArray), true)
                  else
                    bif (decide (x0 = (9 : Int))) then
                      some ((⟨#[]⟩ : ByteArray), true)
                    else
                      some ((⟨#[]⟩ : ByteArray), false)
noncomputable def C117 : Con := ⟨[(.B, false, [(.int .i64)])], [(false, [.str]), (false, [.bool])], [(.int .i64)], [.str, .bool], fun (p : Int) => f_impl_form p⟩
noncomputable abbrev K117 : Cons := []
noncomputable abbrev L117 : List (Nat × Loops) := []
abbrev Q117 : List (Nat × List (Int × Nat) × Nat) := []
noncomputable abbrev X117 : Nat → Ctx := ctxOf tb K117 L117 Q117
theorem E117 : ∀ x, funRun fs X117 6 117 C117 x = C117.fn x := fun x => by kernel_rfl
theorem B117 : ConB Try.prog 117 C117 := ConB.make FS MIX TY (cons := K117) (L := L117) (ptrs := Q117) trivial trivial trivial rfl rfl E117
theorem S117 : ConS Try.prog 117 C117 := B117.call rfl
/-! impl.from: function 71 -/
noncomputable def f_impl_from (x0 : Int) (x1 : Int) (x2 : Int) : Option (Bool) :=
  bif (decide (x1 ≤ x0)) then
    some (decide (x0 ≤ x2))
  else
    some false
noncomputable def C71 : Con := ⟨[(.B, false, [(.int .i64)]), (.B, false, [(.int .i64)]), (.B, false, [(.int .i64)])], [(false, [.bool])], [(.int .i64), (.int .i64), (.int .i64)], [.bool], fun (p : Int × Int × Int) => f_impl_from p.1 p.2.1 p.2.2⟩
noncomputable abbrev K71 : Cons := []
noncomputable abbrev L71 : List (Nat × Loops) := []
abbrev Q71 : List (Nat × List (Int × Nat) × Nat) := []
noncomputable abbrev X71 : Nat → Ctx := ctxOf tb K71 L71 Q71
theorem E71 : ∀ x, funRun fs X71 6 71 C71 x = C71.fn x := fun x => by kernel_rfl
theorem B71 : ConB Try.prog 71 C71 := ConB.make FS MIX TY (cons := K71) (L := L71) (ptrs := Q71) trivial trivial trivial rfl rfl E71
theorem S71 : ConS Try.prog 71 C71 := B71.call rfl
/-! impl.InsOk: function 78 -/
noncomputable def f_impl_InsOk.l0 : Nat → Bool → ByteArray → Bool → Int → Int → Int → Int → Int → Int → Int → Int → Int → Int → Int → Int → Option (Bool × Bool × Int × Int × Int × Int × Int × Int × Int × Int × Int × Int)
  | 0, _, _, _, _, _, _, _, _, _, _, _, _, _, _, _ => none
  | n + 1, p19, p20, p21, p22, p23, p24, p25, p26, p27, p28, p29, p30, p31, p32, p33 =>
    bif (decide (p23 < p22)) then
      bif ((decide ((0 : Int) ≤ p23)) && (decide (p23 < (p20.size : Int)))) then
      bif (decide (((p20.data.getD p23.toNat 0).toNat : Int) = (82 : Int))) then
        bif ((decide ((0 : Int) ≤ p23)) && (decide (p23 < (p20.size : Int)))) then
        bif (decide (((p20.data.getD p23.toNat 0).toNat : Int) = (82 : Int))) then
          f_impl_InsOk.l0 n p19 p20 p21 p22 (IntKind.wrap .i64 (p23 + (1 : Int))) p24 p25 p26 p27 p28 p29 p25 p31 p32 p33
        else
          bif (decide (((p20.data.getD p23.toNat 0).toNat : Int) = (65 : Int))) then
            f_impl_InsOk.l0 n p19 p20 p21 p22 (IntKind.wrap .i64 (p23 + (1 : Int))) p24 p25 p26 p27 p28 p29 p26 p31 p32 p33
          else
            bif (decide (((p20.data.getD p23.toNat 0).toNat : Int) = (66 : Int))) then
              f_impl_InsOk.l0 n p19 p20 p21 p22 (IntKind.wrap .i64 (p23 + (1 : Int))) p24 p25 p26 p27 p28 p29 p27 p31 p32 p33
            else
              f_impl_InsOk.l0 n p19 p20 p21 p22 (IntKind.wrap .i64 (p23 + (1 : Int))) p24 p25 p26 p27 p28 p29 p28 p31 p32 p33
        else none
      else
        bif (decide (((p20.data.getD p23.toNat 0).toNat : Int) = (65 : Int))) then
          bif ((decide ((0 : Int) ≤ p23)) && (decide (p23 < (p20.size : Int)))) then
          bif (decide (((p20.data.getD p23.toNat 0).toNat : Int) = (82 : Int))) then
            f_impl_InsOk.l0 n p19 p20 p21 p22 (IntKind.wrap .i64 (p23 + (1 : Int))) p24 p25 p26 p27 p28 p29 p30 p25 p32 p33
          else
            bif (decide (((p20.data.getD p23.toNat 0).toNat : Int) = (65 : Int))) then
              f_impl_InsOk.l0 n p19 p20 p21 p22 (IntKind.wrap .i64 (p23 + (1 : Int))) p24 p25 p26 p27 p28 p29 p30 p26 p32 p33
            else
              bif (decide (((p20.data.getD p23.toNat 0).toNat : Int) = (66 : Int))) then
                f_impl_InsOk.l0 n p19 p20 p21 p22 (IntKind.wrap .i64 (p23 + (1 : Int))) p24 p25 p26 p27 p28 p29 p30 p27 p32 p33
              else
                f_impl_InsOk.l0 n p19 p20 p21 p22 (IntKind.wrap .i64 (p23 + (1 : Int))) p24 p25 p26 p27 p28 p29 p30 p28 p32 p33
          else none
        else
          bif (decide (((p20.data.getD p23.toNat 0).toNat : Int) = (66 : Int))) then
            bif ((decide ((0 : Int) ≤ p23)) && (decide (p23 < (p20.size : Int)))) then
            bif (decide (((p20.data.getD p23.toNat 0).toNat : Int) = (82 : Int))) then
              f_impl_InsOk.l0 n p19 p20 p21 p22 (IntKind.wrap .i64 (p23 + (1 : Int))) p24 p25 p26 p27 p28 p29 p30 p31 p25 p33
            else
              bif (decide (((p20.data.getD p23.toNat 0).toNat : Int) = (65 : Int))) then
                f_impl_InsOk.l0 n p19 p20 p21 p22 (IntKind.wrap .i64 (p23 + (1 : Int))) p24 p25 p26 p27 p28 p29 p30 p31 p26 p33
              else
                bif (decide (((p20.data.getD p23.toNat 0).toNat : Int) = (66 : Int))) then
                  f_impl_InsOk.l0 n p19 p20 p21 p22 (IntKind.wrap .i64 (p23 + (1 : Int))) p24 p25 p26 p27 p28 p29 p30 p31 p27 p33
                else
                  f_impl_InsOk.l0 n p19 p20 p21 p22 (IntKind.wrap .i64 (p23 + (1 : Int))) p24 p25 p26 p27 p28 p29 p30 p31 p28 p33
            else none
          else
            bif ((decide ((0 : Int) ≤ p23)) && (decide (p23 < (p20.size : Int)))) then
            bif (decide (((p20.data.getD p23.toNat 0).toNat : Int) = (82 : Int))) then
              f_impl_InsOk.l0 n p19 p20 p21 p22 (IntKind.wrap .i64 (p23 + (1 : Int))) p24 p25 p26 p27 p28 p29 p30 p31 p32 p25
            else
              bif (decide (((p20.data.getD p23.toNat 0).toNat : Int) = (65 : Int))) then
                f_impl_InsOk.l0 n p19 p20 p21 p22 (IntKind.wrap .i64 (p23 + (1 : Int))) p24 p25 p26 p27 p28 p29 p30 p31 p32 p26
              else
                bif (decide (((p20.data.getD p23.toNat 0).toNat : Int) = (66 : Int))) then
                  f_impl_InsOk.l0 n p19 p20 p21 p22 (IntKind.wrap .i64 (p23 + (1 : Int))) p24 p25 p26 p27 p28 p29 p30 p31 p32 p27
                else
                  f_impl_InsOk.l0 n p19 p20 p21 p22 (IntKind.wrap .i64 (p23 + (1 : Int))) p24 p25 p26 p27 p28 p29 p30 p31 p32 p28
            else none
      else none
    else
      some (p19, p21, p24, p25, p26, p27, p28, p29, p30, p31, p32, p33)
noncomputable def f_impl_InsOk (x0 : Int) (x1 : Int) (x2 : Int) (x3 : Int) (x4 : Int) : Option (Bool) :=
  (f_impl_form x0).bind fun y18 =>
  (f_impl_InsOk.l0 N false y18.1 y18.2 (y18.1.size : Int) 0 x0 x1 x2 x3 x4 x0 0 0 0 0).bind fun r34 =>
  bif r34.2.1 then
    bif ((decide (r34.2.2.2.2.2.2.2.1 = r34.2.2.1)) && ((decide (r34.2.2.2.2.2.2.2.2.1 = r34.2.2.2.1)) && ((decide (r34.2.2.2.2.2.2.2.2.2.1 = r34.2.2.2.2.1)) && ((decide (r34.2.2.2.2.2.2.2.2.2.2.1 = r34.2.2.2.2.2.1)) && (decide (r34.2.2.2.2.2.2.2.2.2.2.2 = r34.2.2.2.2.2.2.1)))))) then
      (f_impl_from r34.2.2.2.1 0 3).bind fun y35 =>
      bif y35 then
        (f_impl_from r34.2.2.2.2.1 0 3).bind fun y36 =>
        bif y36 then
          (f_impl_from r34.2.2.2.2.2.1 0 3).bind fun y37 =>
          bif y37 then
            (f_impl_from r34.2.2.2.2.2.2.1 0 63).bind fun y38 =>
            some y38
          else
            some false
        else
          some false
      else
        some false
    else
      some false
  else
    some false
noncomputable def C78 : Con := ⟨[(.B, true, [(.int .i64), (.int .i64), (.int .i64), (.int .i64), (.int .i64)])], [(false, [.bool])], [(.int .i64), (.int .i64), (.int .i64), (.int .i64), (.int .i64)], [.bool], fun (p : Int × Int × Int × Int × Int) => f_impl_InsOk p.1 p.2.1 p.2.2.1 p.2.2.2.1 p.2.2.2.2⟩
noncomputable def f_impl_InsOk.l0.c : LoopCon := ⟨1000, 6, [1, 2, 3, 4, 5, 17, 18], ⟨[(1, .ptr 1000 0), (2, .bool false), (3, .str ⟨#[]⟩), (4, .bool false), (5, .ptr 1001 0), (17, .int .i64 0), (18, .int .i64 0)], [(1000, .box [.int .i64 0, .int .i64 0, .int .i64 0, .int .i64 0, .int .i64 0]), (1001, .box [.int .i64 0, .int .i64 0, .int .i64 0, .int .i64 0, .int .i64 0])], 1002⟩, [.bool, .str, .bool, (.int .i64), (.int .i64), (.int .i64), (.int .i64), (.int .i64), (.int .i64), (.int .i64), (.int .i64), (.int .i64), (.int .i64), (.int .i64), (.int .i64)], [⟨.exit 0, [1, 2, 4, 5], ⟨[(1, .ptr 1000 0), (2, .bool false), (4, .bool false), (5, .ptr 1001 0)], [(1000, .box [.int .i64 0, .int .i64 0, .int .i64 0, .int .i64 0, .int .i64 0]), (1001, .box [.int .i64 0, .int .i64 0, .int .i64 0, .int .i64 0, .int .i64 0])], 1002⟩, [.bool, .bool, (.int .i64), (.int .i64), (.int .i64), (.int .i64), (.int .i64), (.int .i64), (.int .i64), (.int .i64), (.int .i64), (.int .i64)]⟩], fun (p : Bool × ByteArray × Bool × Int × Int × Int × Int × Int × Int × Int × Int × Int × Int × Int × Int) => f_impl_InsOk.l0 N p.1 p.2.1 p.2.2.1 p.2.2.2.1 p.2.2.2.2.1 p.2.2.2.2.2.1 p.2.2.2.2.2.2.1 p.2.2.2.2.2.2.2.1 p.2.2.2.2.2.2.2.2.1 p.2.2.2.2.2.2.2.2.2.1 p.2.2.2.2.2.2.2.2.2.2.1 p.2.2.2.2.2.2.2.2.2.2.2.1 p.2.2.2.2.2.2.2.2.2.2.2.2.1 p.2.2.2.2.2.2.2.2.2.2.2.2.2.1 p.2.2.2.2.2.2.2.2.2.2.2.2.2.2⟩
noncomputable abbrev K78 : Cons := [(71, C71), (117, C117)]
noncomputable abbrev L78 : List (Nat × Loops) := [(78, [(4, f_impl_InsOk.l0.c)])]
abbrev Q78 : List (Nat × List (Int × Nat) × Nat) := [(118, [(82, 1), (65, 2), (66, 3)], 4)]
noncomputable abbrev X78 : Nat → Ctx := ctxOf tb K78 L78 Q78
theorem f_impl_InsOk.l0.ok : ∀ n p, (fun (p : Bool × ByteArray × Bool × Int × Int × Int × Int × Int × Int × Int × Int × Int × Int × Int × Int) => f_impl_InsOk.l0 n p.1 p.2.1 p.2.2.1 p.2.2.2.1 p.2.2.2.2.1 p.2.2.2.2.2.1 p.2.2.2.2.2.2.1 p.2.2.2.2.2.2.2.1 p.2.2.2.2.2.2.2.2.1 p.2.2.2.2.2.2.2.2.2.1 p.2.2.2.2.2.2.2.2.2.2.1 p.2.2.2.2.2.2.2.2.2.2.2.1 p.2.2.2.2.2.2.2.2.2.2.2.2.1 p.2.2.2.2.2.2.2.2.2.2.2.2.2.1 p.2.2.2.2.2.2.2.2.2.2.2.2.2.2) p = iterD (roundOf fs X78 6 78 4 false f_impl_InsOk.l0.c) n p :=
  iter_of (l := fun n => fun (p : Bool × ByteArray × Bool × Int × Int × Int × Int × Int × Int × Int × Int × Int × Int × Int × Int) => f_impl_InsOk.l0 n p.1 p.2.1 p.2.2.1 p.2.2.2.1 p.2.2.2.2.1 p.2.2.2.2.2.1 p.2.2.2.2.2.2.1 p.2.2.2.2.2.2.2.1 p.2.2.2.2.2.2.2.2.1 p.2.2.2.2.2.2.2.2.2.1 p.2.2.2.2.2.2.2.2.2.2.1 p.2.2.2.2.2.2.2.2.2.2.2.1 p.2.2.2.2.2.2.2.2.2.2.2.2.1 p.2.2.2.2.2.2.2.2.2.2.2.2.2.1 p.2.2.2.2.2.2.2.2.2.2.2.2.2.2) (fun _ => rfl) (fun n p => by kernel_rfl)
theorem E78 : ∀ x, funRun fs X78 6 78 C78 x = C78.fn x := fun x => by kernel_rfl
theorem B78 : ConB Try.prog 78 C78 := ConB.make FS MIX TY (cons := K78) (L := L78) (ptrs := Q78) ⟨S71, S117, trivial⟩ ⟨PT118, trivial⟩ ⟨⟨⟨N, fun p => f_impl_InsOk.l0.ok N p⟩, trivial⟩, trivial⟩ rfl rfl E78
theorem S78 : ConS Try.prog 78 C78 := B78.call rfl
/-! impl.aims: function 79 -/
noncomputable def f_impl_aims (x0 : Int) (x1 : Int) (x2 : Int) (x3 : Int) (x4 : Int) : Option (Bool) :=
  bif (decide (x0 = (4 : Int))) then
    some true
  else
    bif (decide (x0 = (5 : Int))) then
      some true
    else
      some (decide (x0 = (6 : Int)))
noncomputable def C79 : Con := ⟨[(.B, true, [(.int .i64), (.int .i64), (.int .i64), (.int .i64), (.int .i64)])], [(false, [.bool])], [(.int .i64), (.int .i64), (.int .i64), (.int .i64), (.int .i64)], [.bool], fun (p : Int × Int × Int × Int × Int) => f_impl_aims p.1 p.2.1 p.2.2.1 p.2.2.2.1 p.2.2.2.2⟩
noncomputable abbrev K79 : Cons := []
noncomputable abbrev L79 : List (Nat × Loops) := []
abbrev Q79 : List (Nat × List (Int × Nat) × Nat) := []
noncomputable abbrev X79 : Nat → Ctx := ctxOf tb K79 L79 Q79
theorem E79 : ∀ x, funRun fs X79 6 79 C79 x = C79.fn x := fun x => by kernel_rfl
theorem B79 : ConB Try.prog 79 C79 := ConB.make FS MIX TY (cons := K79) (L := L79) (ptrs := Q79) trivial trivial trivial rfl rfl E79
theorem S79 : ConS Try.prog 79 C79 := B79.call rfl
/-! impl.address: function 80 -/
noncomputable def f_impl_address (x0 : Int) : Option (Int) :=
  some (Int.tmod (IntKind.wrap .i64 ((Int.tmod x0 (24 : Int)) + (24 : Int))) (24 : Int))
noncomputable def C80 : Con := ⟨[(.B, false, [(.int .i64)])], [(false, [(.int .i64)])], [(.int .i64)], [(.int .i64)], fun (p : Int) => f_impl_address p⟩
noncomputable abbrev K80 : Cons := []
noncomputable abbrev L80 : List (Nat × Loops) := []
abbrev Q80 : List (Nat × List (Int × Nat) × Nat) := []
noncomputable abbrev X80 : Nat → Ctx := ctxOf tb K80 L80 Q80
theorem E80 : ∀ x, funRun fs X80 6 80 C80 x = C80.fn x := fun x => by kernel_rfl
theorem B80 : ConB Try.prog 80 C80 := ConB.make FS MIX TY (cons := K80) (L := L80) (ptrs := Q80) trivial trivial trivial rfl rfl E80
theorem S80 : ConS Try.prog 80 C80 := B80.call rfl
/-! impl.Target: function 28 -/
noncomputable def f_impl_Target (x0 : Int) (x1 : Int) (x2 : Int) (x3 : Int) (x4 : Int) (x5 : List Int) : Option (Int) :=
  (f_impl_InsOk x0 x1 x2 x3 x4).bind fun y39 =>
  bif (!y39) then
    some (-1)
  else
    (f_impl_aims x0 x1 x2 x3 x4).bind fun y40 =>
    bif (!y40) then
      some (-1)
    else
      bif (!(decide ((x5.length : Int) = (4 : Int)))) then
        some (-1)
      else
        bif ((decide ((0 : Int) ≤ x2)) && (decide (x2 < (x5.length : Int)))) then
        (f_impl_address (IntKind.wrap .i64 ((x5.getD x2.toNat 0) + x4))).bind fun y41 =>
        some y41
        else none
noncomputable def C28 : Con := ⟨[(.B, true, [(.int .i64), (.int .i64), (.int .i64), (.int .i64), (.int .i64)]), (.B, false, [(.sl R0)])], [(false, [(.int .i64)])], [(.int .i64), (.int .i64), (.int .i64), (.int .i64), (.int .i64), (.sl R0)], [(.int .i64)], fun (p : Int × Int × Int × Int × Int × List Int) => f_impl_Target p.1 p.2.1 p.2.2.1 p.2.2.2.1 p.2.2.2.2.1 p.2.2.2.2.2⟩
noncomputable abbrev K28 : Cons := [(78, C78), (79, C79), (80, C80)]
noncomputable abbrev L28 : List (Nat × Loops) := []
abbrev Q28 : List (Nat × List (Int × Nat) × Nat) := []
noncomputable abbrev X28 : Nat → Ctx := ctxOf tb K28 L28 Q28
theorem E28 : ∀ x, funRun fs X28 6 28 C28 x = C28.fn x := fun x => by kernel_rfl
theorem B28 : ConB Try.prog 28 C28 := ConB.make FS MIX TY (cons := K28) (L := L28) (ptrs := Q28) ⟨S78, S79, S80, trivial⟩ trivial trivial rfl rfl E28
theorem S28 : ConS Try.prog 28 C28 := B28.call rfl
/-! laws.eqIntS: function 29 -/
noncomputable def f_laws_eqIntS.l0 : Nat → (List Int) → (List Int) → Bool → Int → Option ((Bool) ⊕ (Bool))
  | 0, _, _, _, _ => none
  | n + 1, p42, p43, p44, p45 =>
    bif (decide (p45 < (p42.length : Int))) then
      bif ((decide ((0 : Int) ≤ p45)) && (decide (p45 < (p42.length : Int)))) then
      bif ((decide ((0 : Int) ≤ p45)) && (decide (p45 < (p43.length : Int)))) then
      bif (!(decide ((p42.getD p45.toNat 0) = (p43.getD p45.toNat 0)))) then
        some (.inl false)
      else
        f_laws_eqIntS.l0 n p42 p43 p44 (IntKind.wrap .i64 (p45 + (1 : Int)))
      else none
      else none
    else
      some (.inr p44)
noncomputable def f_laws_eqIntS (x0 : List Int) (x1 : List Int) : Option (Bool) :=
  bif (!(decide ((x0.length : Int) = (x1.length : Int)))) then
    some false
  else
    (f_laws_eqIntS.l0 N x0 x1 false 0).bind fun r46 =>
    cs r46 (fun a47 =>
      some a47) (fun b48 =>
      some true)
noncomputable def C29 : Con := ⟨[(.B, false, [(.sl R0)]), (.B, false, [(.sl R0)])], [(false, [.bool])], [(.sl R0), (.sl R0)], [.bool], fun (p : List Int × List Int) => f_laws_eqIntS p.1 p.2⟩
noncomputable def f_laws_eqIntS.l0.c : LoopCon := ⟨1000, 6, [0, 1, 4, 5], ⟨[(0, .bor none R0 []), (1, .bor none R0 []), (4, .bool false), (5, .int .i64 0)], [], 1000⟩, [(.sl R0), (.sl R0), .bool, (.int .i64)], [⟨.ret, [4], ⟨[(4, .bool false)], [], 1000⟩, [.bool]⟩, ⟨.exit 0, [4], ⟨[(4, .bool false)], [], 1000⟩, [.bool]⟩], fun (p : List Int × List Int × Bool × Int) => f_laws_eqIntS.l0 N p.1 p.2.1 p.2.2.1 p.2.2.2⟩
noncomputable abbrev K29 : Cons := []
noncomputable abbrev L29 : List (Nat × Loops) := [(29, [(4, f_laws_eqIntS.l0.c)])]
abbrev Q29 : List (Nat × List (Int × Nat) × Nat) := []
noncomputable abbrev X29 : Nat → Ctx := ctxOf tb K29 L29 Q29
theorem f_laws_eqIntS.l0.ok : ∀ n p, (fun (p : List Int × List Int × Bool × Int) => f_laws_eqIntS.l0 n p.1 p.2.1 p.2.2.1 p.2.2.2) p = iterD (roundOf fs X29 6 29 4 false f_laws_eqIntS.l0.c) n p :=
  iter_of (l := fun n => fun (p : List Int × List Int × Bool × Int) => f_laws_eqIntS.l0 n p.1 p.2.1 p.2.2.1 p.2.2.2) (fun _ => rfl) (fun n p => by kernel_rfl)
theorem E29 : ∀ x, funRun fs X29 6 29 C29 x = C29.fn x := fun x => by kernel_rfl
theorem B29 : ConB Try.prog 29 C29 := ConB.make FS MIX TY (cons := K29) (L := L29) (ptrs := Q29) trivial trivial ⟨⟨⟨N, fun p => f_laws_eqIntS.l0.ok N p⟩, trivial⟩, trivial⟩ rfl rfl E29
theorem S29 : ConS Try.prog 29 C29 := B29.call rfl
/-! laws.FnExactTarget: function 5 -/
noncomputable def f_laws_FnExactTarget (x0 : Int) (x1 : Int) (x2 : Int) (x3 : Int) (x4 : Int) (x5 : List Int) : Option (Bool) :=
  bif (decide ((1048576 : Int) < (x5.length : Int))) then
    some true
  else
    (f_laws_toIns x0 x1 x2 x3 x4).bind fun y49 =>
    (f_laws_toIntS x5).bind fun y50 =>
    (f_spec_Target y49.1 y49.2.1 y49.2.2.1 y49.2.2.2.1 y49.2.2.2.2 y50).bind fun y51 =>
    (f_laws_toIntS x5).bind fun y52 =>
    (f_laws_toIns x0 x1 x2 x3 x4).bind fun y53 =>
    (f_impl_Target y53.1 y53.2.1 y53.2.2.1 y53.2.2.2.1 y53.2.2.2.2 y52).bind fun y54 =>
    bif (!(decide (y54 = y51))) then
      some false
    else
      (f_laws_toIntS x5).bind fun y55 =>
      (f_laws_eqIntS y52 y55).bind fun y56 =>
      bif (!y56) then
        some false
      else
        some true
noncomputable def C5 : Con := ⟨[(.B, true, [(.int .i64), (.int .i64), (.int .i64), (.int .i64), (.int .i64)]), (.B, false, [(.sl R0)])], [(false, [.bool])], [(.int .i64), (.int .i64), (.int .i64), (.int .i64), (.int .i64), (.sl R0)], [.bool], fun (p : Int × Int × Int × Int × Int × List Int) => f_laws_FnExactTarget p.1 p.2.1 p.2.2.1 p.2.2.2.1 p.2.2.2.2.1 p.2.2.2.2.2⟩
noncomputable abbrev K5 : Cons := [(25, C25), (26, C26), (27, C27), (28, C28), (29, C29)]
noncomputable abbrev L5 : List (Nat × Loops) := []
abbrev Q5 : List (Nat × List (Int × Nat) × Nat) := []
noncomputable abbrev X5 : Nat → Ctx := ctxOf tb K5 L5 Q5
theorem E5 : ∀ x, funRun fs X5 6 5 C5 x = C5.fn x := fun x => by kernel_rfl
theorem B5 : ConB Try.prog 5 C5 := ConB.make FS MIX TY (cons := K5) (L := L5) (ptrs := Q5) ⟨S25, S26, S27, S28, S29, trivial⟩ trivial trivial rfl rfl E5
theorem S5 : ConS Try.prog 5 C5 := B5.call rfl
/-- What is left: the plain law. -/
def Pure : Prop := ∀ x : Tup [(.int .i64), (.int .i64), (.int .i64), (.int .i64), (.int .i64), (.sl R0)], WfT [(.int .i64), (.int .i64), (.int .i64), (.int .i64), (.int .i64), (.sl R0)] x → C5.fn x = some (true : Bool)
end
end Go.Abs
