import Derived.Test.YtekpagfagciflaaProg
import Derived.Test.YtekpagfagciflaaAbsC
import Derived.KernelRfl
namespace Go.Abs
open Go.Proofs
set_option linter.unusedVariables false
set_option maxRecDepth 100000
noncomputable section
abbrev N : Nat := 1152921504606846976
abbrev R0 : RT := .one (.int .i64)
noncomputable def tb : Tb := [(0, ⟨false, [], [], 0, 0⟩),
  (3, ⟨false, [(.int .i64)], [], 0, 8⟩),
  (4, ⟨false, [.bool], [], 0, 1⟩),
  (5, ⟨false, [(.int .u8)], [], 0, 1⟩),
  (9, ⟨false, [.str], [], 0, 16⟩),
  (40, ⟨false, [(.sl R0)], [], 3, 24⟩),
  (47, ⟨true, [(.int .i64), (.int .i64), (.int .i64), (.int .i64), (.int .i64)], [(0, 3), (1, 3), (2, 3), (3, 3), (4, 3)], 0, 40⟩),
  (49, ⟨true, [(.int .i64), (.int .i64), (.int .i64), (.int .i64), (.int .i64)], [(0, 3), (1, 3), (2, 3), (3, 3), (4, 3)], 0, 40⟩),
  (65, ⟨false, [], [], 0, 0⟩),
  (88, ⟨false, [], [], 0, 0⟩),
  (90, ⟨false, [], [], 0, 8⟩),
  (98, ⟨false, [], [], 0, 8⟩)]
noncomputable def fsL : List (Nat × Func) := [(33, Try.f33), (57, Try.f57), (64, Try.f64), (65, Try.f65), (32, Try.f32), (43, Try.f43), (66, Try.f66), (67, Try.f67), (58, Try.f58), (34, Try.f34), (44, Try.f44), (11, Try.f11)]
noncomputable def fs : Nat → Option Func := getF fsL
theorem MIX : Try.prog.follows .mixedOrders = true := by kernel_rfl
theorem TY : tyCheck Try.prog tb = true := by kernel_rfl
theorem CAT : catCheck tb = true := by kernel_rfl
theorem FSP : FsP Try.prog fsL := ⟨Try.func33, Try.func57, Try.func64, Try.func65, Try.func32, Try.func43, Try.func66, Try.func67, Try.func58, Try.func34, Try.func44, Try.func11, trivial⟩
theorem FSC : (fsL.all fun p => fnChk p.2) = true := by kernel_rfl
theorem FS : FsS Try.prog fs := FsS.of FSP FSC
theorem PT67 : PtrS Try.prog 67 [(82, 1), (65, 2), (66, 3)] 4 := PtrS.make FS MIX TY (cons := []) (L := []) (ptrs := []) trivial trivial trivial rfl (fun l => by kernel_rfl)
/-! laws.toIns: function 33 -/
noncomputable def f_laws_toIns (x0 : Int) (x1 : Int) (x2 : Int) (x3 : Int) (x4 : Int) : Option (Int × Int × Int × Int × Int) :=
  some (x0, x1, x2, x3, x4)
noncomputable def C33 : Con := ⟨[(.B, true, [(.int .i64), (.int .i64), (.int .i64), (.int .i64), (.int .i64)])], [(true, [(.int .i64), (.int .i64), (.int .i64), (.int .i64), (.int .i64)])], [(.int .i64), (.int .i64), (.int .i64), (.int .i64), (.int .i64)], [(.int .i64), (.int .i64), (.int .i64), (.int .i64), (.int .i64)], fun (p : Int × Int × Int × Int × Int) => f_laws_toIns p.1 p.2.1 p.2.2.1 p.2.2.2.1 p.2.2.2.2⟩
noncomputable abbrev K33 : Cons := []
noncomputable abbrev L33 : List (Nat × Loops) := []
abbrev Q33 : List (Nat × List (Int × Nat) × Nat) := []
noncomputable abbrev X33 : Nat → Ctx := ctxOf tb K33 L33 Q33
theorem E33 : ∀ x, funRun fs X33 6 33 C33 x = C33.fn x := fun x => by kernel_rfl
theorem B33 : ConB Try.prog 33 C33 := ConB.make FS MIX TY (cons := K33) (L := L33) (ptrs := Q33) trivial trivial trivial rfl rfl E33
theorem S33 : ConS Try.prog 33 C33 := B33.call rfl
/-! spec.l1In: function 57 -/
noncomputable def f_spec_l1In (x0 : Int) (x1 : Int) (x2 : Int) : Option (Bool) :=
  bif (decide (x1 ≤ x0)) then
    some (decide (x0 ≤ x2))
  else
    some false
noncomputable def C57 : Con := ⟨[(.B, false, [(.int .i64)]), (.B, false, [(.int .i64)]), (.B, false, [(.int .i64)])], [(false, [.bool])], [(.int .i64), (.int .i64), (.int .i64)], [.bool], fun (p : Int × Int × Int) => f_spec_l1In p.1 p.2.1 p.2.2⟩
noncomputable abbrev K57 : Cons := []
noncomputable abbrev L57 : List (Nat × Loops) := []
abbrev Q57 : List (Nat × List (Int × Nat) × Nat) := []
noncomputable abbrev X57 : Nat → Ctx := ctxOf tb K57 L57 Q57
theorem E57 : ∀ x, funRun fs X57 6 57 C57 x = C57.fn x := fun x => by kernel_rfl
theorem B57 : ConB Try.prog 57 C57 := ConB.make FS MIX TY (cons := K57) (L := L57) (ptrs := Q57) trivial trivial trivial rfl rfl E57
theorem S57 : ConS Try.prog 57 C57 := B57.call rfl
/-! spec.l8Has: function 64 -/
noncomputable def f_spec_l8Has (x0 : Int) : Option (Int) :=
  (f_spec_l1In x0 1 10).bind fun y1 =>
  bif (!y1) then
    some 0
  else
    bif ((decide ((0 : Int) ≤ x0)) && (decide (x0 < (([0, 9, 7, 11, 11, 14, 15, 10, 8, 0, 7] : List Int).length : Int)))) then
    some (([0, 9, 7, 11, 11, 14, 15, 10, 8, 0, 7] : List Int).getD x0.toNat 0)
    else none
noncomputable def C64 : Con := ⟨[(.B, false, [(.int .i64)])], [(false, [(.int .i64)])], [(.int .i64)], [(.int .i64)], fun (p : Int) => f_spec_l8Has p⟩
noncomputable abbrev K64 : Cons := [(57, C57)]
noncomputable abbrev L64 : List (Nat × Loops) := []
abbrev Q64 : List (Nat × List (Int × Nat) × Nat) := []
noncomputable abbrev X64 : Nat → Ctx := ctxOf tb K64 L64 Q64
theorem E64 : ∀ x, funRun fs X64 6 64 C64 x = C64.fn x := fun x => by kernel_rfl
theorem B64 : ConB Try.prog 64 C64 := ConB.make FS MIX TY (cons := K64) (L := L64) (ptrs := Q64) ⟨S57, trivial⟩ trivial trivial rfl rfl E64
theorem S64 : ConS Try.prog 64 C64 := B64.call rfl
/-! spec.l8Field: function 65 -/
noncomputable def f_spec_l8Field (x0 : Int) (x1 : Int) (x2 : Bool) : Option (Bool) :=
  (f_spec_l1In x0 0 x1).bind fun y2 =>
  bif y2 then
    bif x2 then
      some true
    else
      some (decide (x0 = (0 : Int)))
  else
    some false
noncomputable def C65 : Con := ⟨[(.B, false, [(.int .i64)]), (.B, false, [(.int .i64)]), (.B, false, [.bool])], [(false, [.bool])], [(.int .i64), (.int .i64), .bool], [.bool], fun (p : Int × Int × Bool) => f_spec_l8Field p.1 p.2.1 p.2.2⟩
noncomputable abbrev K65 : Cons := [(57, C57)]
noncomputable abbrev L65 : List (Nat × Loops) := []
abbrev Q65 : List (Nat × List (Int × Nat) × Nat) := []
noncomputable abbrev X65 : Nat → Ctx := ctxOf tb K65 L65 Q65
theorem E65 : ∀ x, funRun fs X65 6 65 C65 x = C65.fn x := fun x => by kernel_rfl
theorem B65 : ConB Try.prog 65 C65 := ConB.make FS MIX TY (cons := K65) (L := L65) (ptrs := Q65) ⟨S57, trivial⟩ trivial trivial rfl rfl E65
theorem S65 : ConS Try.prog 65 C65 := B65.call rfl
/-! spec.InsOk: function 32 -/
noncomputable def f_spec_InsOk (x0 : Int) (x1 : Int) (x2 : Int) (x3 : Int) (x4 : Int) : Option (Bool) :=
  (f_spec_l8Has x0).bind fun y3 =>
  (f_spec_l1In x0 1 10).bind fun y4 =>
  bif y4 then
    (f_spec_l8Field x1 3 (!(decide ((bitI .and .i64 y3 (1 : Int)) = (0 : Int))))).bind fun y5 =>
    bif y5 then
      (f_spec_l8Field x2 3 (!(decide ((bitI .and .i64 y3 (2 : Int)) = (0 : Int))))).bind fun y6 =>
      bif y6 then
        (f_spec_l8Field x3 3 (!(decide ((bitI .and .i64 y3 (4 : Int)) = (0 : Int))))).bind fun y7 =>
        bif y7 then
          (f_spec_l8Field x4 63 (!(decide ((bitI .and .i64 y3 (8 : Int)) = (0 : Int))))).bind fun y8 =>
          some y8
        else
          some false
      else
        some false
    else
      some false
  else
    some false
noncomputable def C32 : Con := ⟨[(.B, true, [(.int .i64), (.int .i64), (.int .i64), (.int .i64), (.int .i64)])], [(false, [.bool])], [(.int .i64), (.int .i64), (.int .i64), (.int .i64), (.int .i64)], [.bool], fun (p : Int × Int × Int × Int × Int) => f_spec_InsOk p.1 p.2.1 p.2.2.1 p.2.2.2.1 p.2.2.2.2⟩
noncomputable abbrev K32 : Cons := [(57, C57), (64, C64), (65, C65)]
noncomputable abbrev L32 : List (Nat × Loops) := []
abbrev Q32 : List (Nat × List (Int × Nat) × Nat) := []
noncomputable abbrev X32 : Nat → Ctx := ctxOf tb K32 L32 Q32
theorem E32 : ∀ x, funRun fs X32 6 32 C32 x = C32.fn x := fun x => by kernel_rfl
theorem B32 : ConB Try.prog 32 C32 := ConB.make FS MIX TY (cons := K32) (L := L32) (ptrs := Q32) ⟨S57, S64, S65, trivial⟩ trivial trivial rfl rfl E32
theorem S32 : ConS Try.prog 32 C32 := B32.call rfl
/-! spec.Code: function 43 -/
noncomputable def f_spec_Code (x0 : Int) (x1 : Int) (x2 : Int) (x3 : Int) (x4 : Int) : Option (Int × Bool) :=
  (f_spec_InsOk x0 x1 x2 x3 x4).bind fun y9 =>
  bif (!y9) then
    some (0, false)
  else
    some ((IntKind.wrap .i64 ((IntKind.wrap .i64 ((IntKind.wrap .i64 ((IntKind.wrap .i64 (x0 + (IntKind.wrap .i64 ((16 : Int) * x1)))) + (IntKind.wrap .i64 ((64 : Int) * x2)))) + (IntKind.wrap .i64 ((256 : Int) * x3)))) + (IntKind.wrap .i64 ((1024 : Int) * x4)))), true)
noncomputable def C43 : Con := ⟨[(.B, true, [(.int .i64), (.int .i64), (.int .i64), (.int .i64), (.int .i64)])], [(false, [(.int .i64)]), (false, [.bool])], [(.int .i64), (.int .i64), (.int .i64), (.int .i64), (.int .i64)], [(.int .i64), .bool], fun (p : Int × Int × Int × Int × Int) => f_spec_Code p.1 p.2.1 p.2.2.1 p.2.2.2.1 p.2.2.2.2⟩
noncomputable abbrev K43 : Cons := [(32, C32)]
noncomputable abbrev L43 : List (Nat × Loops) := []
abbrev Q43 : List (Nat × List (Int × Nat) × Nat) := []
noncomputable abbrev X43 : Nat → Ctx := ctxOf tb K43 L43 Q43
theorem E43 : ∀ x, funRun fs X43 6 43 C43 x = C43.fn x := fun x => by kernel_rfl
theorem B43 : ConB Try.prog 43 C43 := ConB.make FS MIX TY (cons := K43) (L := L43) (ptrs := Q43) ⟨S32, trivial⟩ trivial trivial rfl rfl E43
theorem S43 : ConS Try.prog 43 C43 := B43.call rfl
/-! impl.form: function 66 -/
noncomputable def f_impl_form (x0 : Int) : Option (ByteArray × Bool) :=
  bif (decide (x0 = (1 : Int))) then
    some ((⟨#[82, 78]⟩ : ByteArray), true)
  else
    bif (decide (x0 = (2 : Int))) then
      some ((⟨#[82, 65, 66]⟩ : ByteArray), true)
    else
      bif (decide (x0 = (10 : Int))) then
        some ((⟨#[82, 65, 66]⟩ : ByteArray), true)
      else
        bif (decide (x0 = (3 : Int))) then
          some ((⟨#[82, 65, 78]⟩ : ByteArray), true)
        else
          bif (decide (x0 = (4 : Int))) then
            some ((⟨#[82, 65, 78]⟩ : ByteArray), true)
          else
            bif (decide (x0 = (5 : Int))) then
              some ((⟨#[65, 66, 78]⟩ : ByteArray), true)
            else
              bif (decide (x0 = (6 : Int))) then
                some ((⟨#[82, 65, 66, 78]⟩ : ByteArray), true)
              else
                bif (decide (x0 = (7 : Int))) then
                  some ((⟨#[65, 78]⟩ : ByteArray), true)
                else
                  bif (decide (x0 = (8 : Int))) then
                    some ((⟨#[78]⟩ : ByteArray), true)
                  else
                    bif (decide (x0 = (9 : Int))) then
                      some ((⟨#[]⟩ : ByteArray), true)
                    else
                      some ((⟨#[]⟩ : ByteArray), false)
noncomputable def C66 : Con := ⟨[(.B, false, [(.int .i64)])], [(false, [.str]), (false, [.bool])], [(.int .i64)], [.str, .bool], fun (p : Int) => f_impl_form p⟩
noncomputable abbrev K66 : Cons := []
noncomputable abbrev L66 : List (Nat × Loops) := []
abbrev Q66 : List (Nat × List (Int × Nat) × Nat) := []
noncomputable abbrev X66 : Nat → Ctx := ctxOf tb K66 L66 Q66
theorem E66 : ∀ x, funRun fs X66 6 66 C66 x = C66.fn x := fun x => by kernel_rfl
theorem B66 : ConB Try.prog 66 C66 := ConB.make FS MIX TY (cons := K66) (L := L66) (ptrs := Q66) trivial trivial trivial rfl rfl E66
theorem S66 : ConS Try.prog 66 C66 := B66.call rfl
/-! impl.from: function 58 -/
noncomputable def f_impl_from (x0 : Int) (x1 : Int) (x2 : Int) : Option (Bool) :=
  bif (decide (x1 ≤ x0)) then
    some (decide (x0 ≤ x2))
  else
    some false
noncomputable def C58 : Con := ⟨[(.B, false, [(.int .i64)]), (.B, false, [(.int .i64)]), (.B, false, [(.int .i64)])], [(false, [.bool])], [(.int .i64), (.int .i64), (.int .i64)], [.bool], fun (p : Int × Int × Int) => f_impl_from p.1 p.2.1 p.2.2⟩
noncomputable abbrev K58 : Cons := []
noncomputable abbrev L58 : List (Nat × Loops) := []
abbrev Q58 : List (Nat × List (Int × Nat) × Nat) := []
noncomputable abbrev X58 : Nat → Ctx := ctxOf tb K58 L58 Q58
theorem E58 : ∀ x, funRun fs X58 6 58 C58 x = C58.fn x := fun x => by kernel_rfl
theorem B58 : ConB Try.prog 58 C58 := ConB.make FS MIX TY (cons := K58) (L := L58) (ptrs := Q58) trivial trivial trivial rfl rfl E58
theorem S58 : ConS Try.prog 58 C58 := B58.call rfl
/-! impl.InsOk: function 34 -/
noncomputable def f_impl_InsOk.l0 : Nat → Bool → ByteArray → Bool → Int → Int → Int → Int → Int → Int → Int → Int → Int → Int → Int → Int → Option (Bool × Bool × Int × Int × Int × Int × Int × Int × Int × Int × Int × Int)
  | 0, _, _, _, _, _, _, _, _, _, _, _, _, _, _, _ => none
  | n + 1, p11, p12, p13, p14, p15, p16, p17, p18, p19, p20, p21, p22, p23, p24, p25 =>
    bif (decide (p15 < p14)) then
      bif ((decide ((0 : Int) ≤ p15)) && (decide (p15 < (p12.size : Int)))) then
      bif (decide (((p12.data.getD p15.toNat 0).toNat : Int) = (82 : Int))) then
        bif ((decide ((0 : Int) ≤ p15)) && (decide (p15 < (p12.size : Int)))) then
        bif (decide (((p12.data.getD p15.toNat 0).toNat : Int) = (82 : Int))) then
          f_impl_InsOk.l0 n p11 p12 p13 p14 (IntKind.wrap .i64 (p15 + (1 : Int))) p16 p17 p18 p19 p20 p21 p17 p23 p24 p25
        else
          bif (decide (((p12.data.getD p15.toNat 0).toNat : Int) = (65 : Int))) then
            f_impl_InsOk.l0 n p11 p12 p13 p14 (IntKind.wrap .i64 (p15 + (1 : Int))) p16 p17 p18 p19 p20 p21 p18 p23 p24 p25
          else
            bif (decide (((p12.data.getD p15.toNat 0).toNat : Int) = (66 : Int))) then
              f_impl_InsOk.l0 n p11 p12 p13 p14 (IntKind.wrap .i64 (p15 + (1 : Int))) p16 p17 p18 p19 p20 p21 p19 p23 p24 p25
            else
              f_impl_InsOk.l0 n p11 p12 p13 p14 (IntKind.wrap .i64 (p15 + (1 : Int))) p16 p17 p18 p19 p20 p21 p20 p23 p24 p25
        else none
      else
        bif (decide (((p12.data.getD p15.toNat 0).toNat : Int) = (65 : Int))) then
          bif ((decide ((0 : Int) ≤ p15)) && (decide (p15 < (p12.size : Int)))) then
          bif (decide (((p12.data.getD p15.toNat 0).toNat : Int) = (82 : Int))) then
            f_impl_InsOk.l0 n p11 p12 p13 p14 (IntKind.wrap .i64 (p15 + (1 : Int))) p16 p17 p18 p19 p20 p21 p22 p17 p24 p25
          else
            bif (decide (((p12.data.getD p15.toNat 0).toNat : Int) = (65 : Int))) then
              f_impl_InsOk.l0 n p11 p12 p13 p14 (IntKind.wrap .i64 (p15 + (1 : Int))) p16 p17 p18 p19 p20 p21 p22 p18 p24 p25
            else
              bif (decide (((p12.data.getD p15.toNat 0).toNat : Int) = (66 : Int))) then
                f_impl_InsOk.l0 n p11 p12 p13 p14 (IntKind.wrap .i64 (p15 + (1 : Int))) p16 p17 p18 p19 p20 p21 p22 p19 p24 p25
              else
                f_impl_InsOk.l0 n p11 p12 p13 p14 (IntKind.wrap .i64 (p15 + (1 : Int))) p16 p17 p18 p19 p20 p21 p22 p20 p24 p25
          else none
        else
          bif (decide (((p12.data.getD p15.toNat 0).toNat : Int) = (66 : Int))) then
            bif ((decide ((0 : Int) ≤ p15)) && (decide (p15 < (p12.size : Int)))) then
            bif (decide (((p12.data.getD p15.toNat 0).toNat : Int) = (82 : Int))) then
              f_impl_InsOk.l0 n p11 p12 p13 p14 (IntKind.wrap .i64 (p15 + (1 : Int))) p16 p17 p18 p19 p20 p21 p22 p23 p17 p25
            else
              bif (decide (((p12.data.getD p15.toNat 0).toNat : Int) = (65 : Int))) then
                f_impl_InsOk.l0 n p11 p12 p13 p14 (IntKind.wrap .i64 (p15 + (1 : Int))) p16 p17 p18 p19 p20 p21 p22 p23 p18 p25
              else
                bif (decide (((p12.data.getD p15.toNat 0).toNat : Int) = (66 : Int))) then
                  f_impl_InsOk.l0 n p11 p12 p13 p14 (IntKind.wrap .i64 (p15 + (1 : Int))) p16 p17 p18 p19 p20 p21 p22 p23 p19 p25
                else
                  f_impl_InsOk.l0 n p11 p12 p13 p14 (IntKind.wrap .i64 (p15 + (1 : Int))) p16 p17 p18 p19 p20 p21 p22 p23 p20 p25
            else none
          else
            bif ((decide ((0 : Int) ≤ p15)) && (decide (p15 < (p12.size : Int)))) then
            bif (decide (((p12.data.getD p15.toNat 0).toNat : Int) = (82 : Int))) then
              f_impl_InsOk.l0 n p11 p12 p13 p14 (IntKind.wrap .i64 (p15 + (1 : Int))) p16 p17 p18 p19 p20 p21 p22 p23 p24 p17
            else
              bif (decide (((p12.data.getD p15.toNat 0).toNat : Int) = (65 : Int))) then
                f_impl_InsOk.l0 n p11 p12 p13 p14 (IntKind.wrap .i64 (p15 + (1 : Int))) p16 p17 p18 p19 p20 p21 p22 p23 p24 p18
              else
                bif (decide (((p12.data.getD p15.toNat 0).toNat : Int) = (66 : Int))) then
                  f_impl_InsOk.l0 n p11 p12 p13 p14 (IntKind.wrap .i64 (p15 + (1 : Int))) p16 p17 p18 p19 p20 p21 p22 p23 p24 p19
                else
                  f_impl_InsOk.l0 n p11 p12 p13 p14 (IntKind.wrap .i64 (p15 + (1 : Int))) p16 p17 p18 p19 p20 p21 p22 p23 p24 p20
            else none
      else none
    else
      some (p11, p13, p16, p17, p18, p19, p20, p21, p22, p23, p24, p25)
noncomputable def f_impl_InsOk (x0 : Int) (x1 : Int) (x2 : Int) (x3 : Int) (x4 : Int) : Option (Bool) :=
  (f_impl_form x0).bind fun y10 =>
  (f_impl_InsOk.l0 N false y10.1 y10.2 (y10.1.size : Int) 0 x0 x1 x2 x3 x4 x0 0 0 0 0).bind fun r26 =>
  bif r26.2.1 then
    bif ((decide (r26.2.2.2.2.2.2.2.1 = r26.2.2.1)) && ((decide (r26.2.2.2.2.2.2.2.2.1 = r26.2.2.2.1)) && ((decide (r26.2.2.2.2.2.2.2.2.2.1 = r26.2.2.2.2.1)) && ((decide (r26.2.2.2.2.2.2.2.2.2.2.1 = r26.2.2.2.2.2.1)) && (decide (r26.2.2.2.2.2.2.2.2.2.2.2 = r26.2.2.2.2.2.2.1)))))) then
      (f_impl_from r26.2.2.2.1 0 3).bind fun y27 =>
      bif y27 then
        (f_impl_from r26.2.2.2.2.1 0 3).bind fun y28 =>
        bif y28 then
          (f_impl_from r26.2.2.2.2.2.1 0 3).bind fun y29 =>
          bif y29 then
            (f_impl_from r26.2.2.2.2.2.2.1 0 63).bind fun y30 =>
            some y30
          else
            some false
        else
          some false
      else
        some false
    else
      some false
  else
    some false
noncomputable def C34 : Con := ⟨[(.B, true, [(.int .i64), (.int .i64), (.int .i64), (.int .i64), (.int .i64)])], [(false, [.bool])], [(.int .i64), (.int .i64), (.int .i64), (.int .i64), (.int .i64)], [.bool], fun (p : Int × Int × Int × Int × Int) => f_impl_InsOk p.1 p.2.1 p.2.2.1 p.2.2.2.1 p.2.2.2.2⟩
noncomputable def f_impl_InsOk.l0.c : LoopCon := ⟨1000, 6, [1, 2, 3, 4, 5, 17, 18], ⟨[(1, .ptr 1000 0), (2, .bool false), (3, .str ⟨#[]⟩), (4, .bool false), (5, .ptr 1001 0), (17, .int .i64 0), (18, .int .i64 0)], [(1000, .box [.int .i64 0, .int .i64 0, .int .i64 0, .int .i64 0, .int .i64 0]), (1001, .box [.int .i64 0, .int .i64 0, .int .i64 0, .int .i64 0, .int .i64 0])], 1002⟩, [.bool, .str, .bool, (.int .i64), (.int .i64), (.int .i64), (.int .i64), (.int .i64), (.int .i64), (.int .i64), (.int .i64), (.int .i64), (.int .i64), (.int .i64), (.int .i64)], [⟨.exit 0, [1, 2, 4, 5], ⟨[(1, .ptr 1000 0), (2, .bool false), (4, .bool false), (5, .ptr 1001 0)], [(1000, .box [.int .i64 0, .int .i64 0, .int .i64 0, .int .i64 0, .int .i64 0]), (1001, .box [.int .i64 0, .int .i64 0, .int .i64 0, .int .i64 0, .int .i64 0])], 1002⟩, [.bool, .bool, (.int .i64), (.int .i64), (.int .i64), (.int .i64), (.int .i64), (.int .i64), (.int .i64), (.int .i64), (.int .i64), (.int .i64)]⟩], fun (p : Bool × ByteArray × Bool × Int × Int × Int × Int × Int × Int × Int × Int × Int × Int × Int × Int) => f_impl_InsOk.l0 N p.1 p.2.1 p.2.2.1 p.2.2.2.1 p.2.2.2.2.1 p.2.2.2.2.2.1 p.2.2.2.2.2.2.1 p.2.2.2.2.2.2.2.1 p.2.2.2.2.2.2.2.2.1 p.2.2.2.2.2.2.2.2.2.1 p.2.2.2.2.2.2.2.2.2.2.1 p.2.2.2.2.2.2.2.2.2.2.2.1 p.2.2.2.2.2.2.2.2.2.2.2.2.1 p.2.2.2.2.2.2.2.2.2.2.2.2.2.1 p.2.2.2.2.2.2.2.2.2.2.2.2.2.2⟩
noncomputable abbrev K34 : Cons := [(58, C58), (66, C66)]
noncomputable abbrev L34 : List (Nat × Loops) := [(34, [(4, f_impl_InsOk.l0.c)])]
abbrev Q34 : List (Nat × List (Int × Nat) × Nat) := [(67, [(82, 1), (65, 2), (66, 3)], 4)]
noncomputable abbrev X34 : Nat → Ctx := ctxOf tb K34 L34 Q34
theorem f_impl_InsOk.l0.ok : ∀ n p, (fun (p : Bool × ByteArray × Bool × Int × Int × Int × Int × Int × Int × Int × Int × Int × Int × Int × Int) => f_impl_InsOk.l0 n p.1 p.2.1 p.2.2.1 p.2.2.2.1 p.2.2.2.2.1 p.2.2.2.2.2.1 p.2.2.2.2.2.2.1 p.2.2.2.2.2.2.2.1 p.2.2.2.2.2.2.2.2.1 p.2.2.2.2.2.2.2.2.2.1 p.2.2.2.2.2.2.2.2.2.2.1 p.2.2.2.2.2.2.2.2.2.2.2.1 p.2.2.2.2.2.2.2.2.2.2.2.2.1 p.2.2.2.2.2.2.2.2.2.2.2.2.2.1 p.2.2.2.2.2.2.2.2.2.2.2.2.2.2) p = iterD (roundOf fs X34 6 34 4 false f_impl_InsOk.l0.c) n p :=
  iter_of (l := fun n => fun (p : Bool × ByteArray × Bool × Int × Int × Int × Int × Int × Int × Int × Int × Int × Int × Int × Int) => f_impl_InsOk.l0 n p.1 p.2.1 p.2.2.1 p.2.2.2.1 p.2.2.2.2.1 p.2.2.2.2.2.1 p.2.2.2.2.2.2.1 p.2.2.2.2.2.2.2.1 p.2.2.2.2.2.2.2.2.1 p.2.2.2.2.2.2.2.2.2.1 p.2.2.2.2.2.2.2.2.2.2.1 p.2.2.2.2.2.2.2.2.2.2.2.1 p.2.2.2.2.2.2.2.2.2.2.2.2.1 p.2.2.2.2.2.2.2.2.2.2.2.2.2.1 p.2.2.2.2.2.2.2.2.2.2.2.2.2.2) (fun _ => rfl) (fun n p => by kernel_rfl)
theorem E34 : ∀ x, funRun fs X34 6 34 C34 x = C34.fn x := fun x => by kernel_rfl
theorem B34 : ConB Try.prog 34 C34 := ConB.make FS MIX TY (cons := K34) (L := L34) (ptrs := Q34) ⟨S58, S66, trivial⟩ ⟨PT67, trivial⟩ ⟨⟨⟨N, fun p => f_impl_InsOk.l0.ok N p⟩, trivial⟩, trivial⟩ rfl rfl E34
theorem S34 : ConS Try.prog 34 C34 := B34.call rfl
/-! impl.Code: function 44 -/
noncomputable def f_impl_Code (x0 : Int) (x1 : Int) (x2 : Int) (x3 : Int) (x4 : Int) : Option (Int × Bool) :=
  (f_impl_InsOk x0 x1 x2 x3 x4).bind fun y31 =>
  bif (!y31) then
    some (0, false)
  else
    some ((IntKind.wrap .i64 ((IntKind.wrap .i64 ((IntKind.wrap .i64 ((IntKind.wrap .i64 (x0 + (IntKind.wrap .i64 ((16 : Int) * x1)))) + (IntKind.wrap .i64 ((64 : Int) * x2)))) + (IntKind.wrap .i64 ((256 : Int) * x3)))) + (IntKind.wrap .i64 ((1024 : Int) * x4)))), true)
noncomputable def C44 : Con := ⟨[(.B, true, [(.int .i64), (.int .i64), (.int .i64), (.int .i64), (.int .i64)])], [(false, [(.int .i64)]), (false, [.bool])], [(.int .i64), (.int .i64), (.int .i64), (.int .i64), (.int .i64)], [(.int .i64), .bool], fun (p : Int × Int × Int × Int × Int) => f_impl_Code p.1 p.2.1 p.2.2.1 p.2.2.2.1 p.2.2.2.2⟩
noncomputable abbrev K44 : Cons := [(34, C34)]
noncomputable abbrev L44 : List (Nat × Loops) := []
abbrev Q44 : List (Nat × List (Int × Nat) × Nat) := []
noncomputable abbrev X44 : Nat → Ctx := ctxOf tb K44 L44 Q44
theorem E44 : ∀ x, funRun fs X44 6 44 C44 x = C44.fn x := fun x => by kernel_rfl
theorem B44 : ConB Try.prog 44 C44 := ConB.make FS MIX TY (cons := K44) (L := L44) (ptrs := Q44) ⟨S34, trivial⟩ trivial trivial rfl rfl E44
theorem S44 : ConS Try.prog 44 C44 := B44.call rfl
/-! laws.FnExactCode: function 11 -/
noncomputable def f_laws_FnExactCode (x0 : Int) (x1 : Int) (x2 : Int) (x3 : Int) (x4 : Int) : Option (Bool) :=
  (f_laws_toIns x0 x1 x2 x3 x4).bind fun y32 =>
  (f_spec_Code y32.1 y32.2.1 y32.2.2.1 y32.2.2.2.1 y32.2.2.2.2).bind fun y33 =>
  (f_laws_toIns x0 x1 x2 x3 x4).bind fun y34 =>
  (f_impl_Code y34.1 y34.2.1 y34.2.2.1 y34.2.2.2.1 y34.2.2.2.2).bind fun y35 =>
  bif (!(decide (y35.1 = y33.1))) then
    some false
  else
    bif (!(y35.2 == y33.2)) then
      some false
    else
      some true
noncomputable def C11 : Con := ⟨[(.B, true, [(.int .i64), (.int .i64), (.int .i64), (.int .i64), (.int .i64)])], [(false, [.bool])], [(.int .i64), (.int .i64), (.int .i64), (.int .i64), (.int .i64)], [.bool], fun (p : Int × Int × Int × Int × Int) => f_laws_FnExactCode p.1 p.2.1 p.2.2.1 p.2.2.2.1 p.2.2.2.2⟩
noncomputable abbrev K11 : Cons := [(33, C33), (43, C43), (44, C44)]
noncomputable abbrev L11 : List (Nat × Loops) := []
abbrev Q11 : List (Nat × List (Int × Nat) × Nat) := []
noncomputable abbrev X11 : Nat → Ctx := ctxOf tb K11 L11 Q11
theorem E11 : ∀ x, funRun fs X11 6 11 C11 x = C11.fn x := fun x => by kernel_rfl
theorem B11 : ConB Try.prog 11 C11 := ConB.make FS MIX TY (cons := K11) (L := L11) (ptrs := Q11) ⟨S33, S43, S44, trivial⟩ trivial trivial rfl rfl E11
theorem S11 : ConS Try.prog 11 C11 := B11.call rfl
/-- What is left: the plain law. -/
def Pure : Prop := ∀ x : Tup [(.int .i64), (.int .i64), (.int .i64), (.int .i64), (.int .i64)], WfT [(.int .i64), (.int .i64), (.int .i64), (.int .i64), (.int .i64)] x → C11.fn x = some (true : Bool)
end
end Go.Abs
