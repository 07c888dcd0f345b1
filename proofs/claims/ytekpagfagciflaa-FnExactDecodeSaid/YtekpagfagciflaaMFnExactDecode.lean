import Derived.Test.YtekpagfagciflaaProg
import Derived.Test.YtekpagfagciflaaAbsC
import Derived.KernelRfl
namespace Go.Abs
open Go.Proofs
set_option linter.unusedVariables false
set_option maxRecDepth 100000
noncomputable section
abbrev N : Nat := 1152921504606846976
abbrev R0 : RT := .one (.int .i64)
noncomputable def tb : Tb := [(0, ⟨false, [], [], 0, 0⟩),
  (3, ⟨false, [(.int .i64)], [], 0, 8⟩),
  (4, ⟨false, [.bool], [], 0, 1⟩),
  (5, ⟨false, [(.int .u8)], [], 0, 1⟩),
  (9, ⟨false, [.str], [], 0, 16⟩),
  (40, ⟨false, [(.sl R0)], [], 3, 24⟩),
  (49, ⟨true, [(.int .i64), (.int .i64), (.int .i64), (.int .i64), (.int .i64)], [(0, 3), (1, 3), (2, 3), (3, 3), (4, 3)], 0, 40⟩),
  (80, ⟨false, [], [], 0, 0⟩),
  (88, ⟨false, [], [], 0, 0⟩),
  (90, ⟨false, [], [], 0, 8⟩),
  (98, ⟨false, [], [], 0, 8⟩)]
noncomputable def fsL : List (Nat × Func) := [(57, Try.f57), (64, Try.f64), (65, Try.f65), (32, Try.f32), (54, Try.f54), (58, Try.f58), (83, Try.f83), (66, Try.f66), (67, Try.f67), (34, Try.f34), (55, Try.f55), (56, Try.f56), (14, Try.f14)]
noncomputable def fs : Nat → Option Func := getF fsL
theorem MIX : Try.prog.follows .mixedOrders = true := by kernel_rfl
theorem TY : tyCheck Try.prog tb = true := by kernel_rfl
theorem CAT : catCheck tb = true := by kernel_rfl
theorem FSP : FsP Try.prog fsL := ⟨Try.func57, Try.func64, Try.func65, Try.func32, Try.func54, Try.func58, Try.func83, Try.func66, Try.func67, Try.func34, Try.func55, Try.func56, Try.func14, trivial⟩
theorem FSC : (fsL.all fun p => fnChk p.2) = true := by kernel_rfl
theorem FS : FsS Try.prog fs := FsS.of FSP FSC
theorem PT67 : PtrS Try.prog 67 [(82, 1), (65, 2), (66, 3)] 4 := PtrS.make FS MIX TY (cons := []) (L := []) (ptrs := []) trivial trivial trivial rfl (fun l => by kernel_rfl)
/-! spec.l1In: function 57 -/
noncomputable def f_spec_l1In (x0 : Int) (x1 : Int) (x2 : Int) : Option (Bool) :=
  bif (decide (x1 ≤ x0)) then
    some (decide (x0 ≤ x2))
  else
    some false
noncomputable def C57 : Con := ⟨[(.B, false, [(.int .i64)]), (.B, false, [(.int .i64)]), (.B, false, [(.int .i64)])], [(false, [.bool])], [(.int .i64), (.int .i64), (.int .i64)], [.bool], fun (p : Int × Int × Int) => f_spec_l1In p.1 p.2.1 p.2.2⟩
noncomputable abbrev K57 : Cons := []
noncomputable abbrev L57 : List (Nat × Loops) := []
abbrev Q57 : List (Nat × List (Int × Nat) × Nat) := []
noncomputable abbrev X57 : Nat → Ctx := ctxOf tb K57 L57 Q57
theorem E57 : ∀ x, funRun fs X57 6 57 C57 x = C57.fn x := fun x => by kernel_rfl
theorem B57 : ConB Try.prog 57 C57 := ConB.make FS MIX TY (cons := K57) (L := L57) (ptrs := Q57) trivial trivial trivial rfl rfl E57
theorem S57 : ConS Try.prog 57 C57 := B57.call rfl
/-! spec.l8Has: function 64 -/
noncomputable def f_spec_l8Has (x0 : Int) : Option (Int) :=
  (f_spec_l1In x0 1 10).bind fun y1 =>
  bif (!y1) then
    some 0
  else
    bif ((decide ((0 : Int) ≤ x0)) && (decide (x0 < (([0, 9, 7, 11, 11, 14, 15, 10, 8, 0, 7] : List Int).length : Int)))) then
    some (([0, 9, 7, 11, 11, 14, 15, 10, 8, 0, 7] : List Int).getD x0.toNat 0)
    else none
noncomputable def C64 : Con := ⟨[(.B, false, [(.int .i64)])], [(false, [(.int .i64)])], [(.int .i64)], [(.int .i64)], fun (p : Int) => f_spec_l8Has p⟩
noncomputable abbrev K64 : Cons := [(57, C57)]
noncomputable abbrev L64 : List (Nat × Loops) := []
abbrev Q64 : List (Nat × List (Int × Nat) × Nat) := []
noncomputable abbrev X64 : Nat → Ctx := ctxOf tb K64 L64 Q64
theorem E64 : ∀ x, funRun fs X64 6 64 C64 x = C64.fn x := fun x => by kernel_rfl
theorem B64 : ConB Try.prog 64 C64 := ConB.make FS MIX TY (cons := K64) (L := L64) (ptrs := Q64) ⟨S57, trivial⟩ trivial trivial rfl rfl E64
theorem S64 : ConS Try.prog 64 C64 := B64.call rfl
/-! spec.l8Field: function 65 -/
noncomputable def f_spec_l8Field (x0 : Int) (x1 : Int) (x2 : Bool) : Option (Bool) :=
  (f_spec_l1In x0 0 x1).bind fun y2 =>
  bif y2 then
    bif x2 then
      some true
    else
      some (decide (x0 = (0 : Int)))
  else
    some false
noncomputable def C65 : Con := ⟨[(.B, false, [(.int .i64)]), (.B, false, [(.int .i64)]), (.B, false, [.bool])], [(false, [.bool])], [(.int .i64), (.int .i64), .bool], [.bool], fun (p : Int × Int × Bool) => f_spec_l8Field p.1 p.2.1 p.2.2⟩
noncomputable abbrev K65 : Cons := [(57, C57)]
noncomputable abbrev L65 : List (Nat × Loops) := []
abbrev Q65 : List (Nat × List (Int × Nat) × Nat) := []
noncomputable abbrev X65 : Nat → Ctx := ctxOf tb K65 L65 Q65
theorem E65 : ∀ x, funRun fs X65 6 65 C65 x = C65.fn x := fun x => by kernel_rfl
theorem B65 : ConB Try.prog 65 C65 := ConB.make FS MIX TY (cons := K65) (L := L65) (ptrs := Q65) ⟨S57, trivial⟩ trivial trivial rfl rfl E65
theorem S65 : ConS Try.prog 65 C65 := B65.call rfl
/-! spec.InsOk: function 32 -/
noncomputable def f_spec_InsOk (x0 : Int) (x1 : Int) (x2 : Int) (x3 : Int) (x4 : Int) : Option (Bool) :=
  (f_spec_l8Has x0).bind fun y3 =>
  (f_spec_l1In x0 1 10).bind fun y4 =>
  bif y4 then
    (f_spec_l8Field x1 3 (!(decide ((bitI .and .i64 y3 (1 : Int)) = (0 : Int))))).bind fun y5 =>
    bif y5 then
      (f_spec_l8Field x2 3 (!(decide ((bitI .and .i64 y3 (2 : Int)) = (0 : Int))))).bind fun y6 =>
      bif y6 then
        (f_spec_l8Field x3 3 (!(decide ((bitI .and .i64 y3 (4 : Int)) = (0 : Int))))).bind fun y7 =>
        bif y7 then
          (f_spec_l8Field x4 63 (!(decide ((bitI .and .i64 y3 (8 : Int)) = (0 : Int))))).bind fun y8 =>
          some y8
        else
          some false
      else
        some false
    else
      some false
  else
    some false
noncomputable def C32 : Con := ⟨[(.B, true, [(.int .i64), (.int .i64), (.int .i64), (.int .i64), (.int .i64)])], [(false, [.bool])], [(.int .i64), (.int .i64), (.int .i64), (.int .i64), (.int .i64)], [.bool], fun (p : Int × Int × Int × Int × Int) => f_spec_InsOk p.1 p.2.1 p.2.2.1 p.2.2.2.1 p.2.2.2.2⟩
noncomputable abbrev K32 : Cons := [(57, C57), (64, C64), (65, C65)]
noncomputable abbrev L32 : List (Nat × Loops) := []
abbrev Q32 : List (Nat × List (Int × Nat) × Nat) := []
noncomputable abbrev X32 : Nat → Ctx := ctxOf tb K32 L32 Q32
theorem E32 : ∀ x, funRun fs X32 6 32 C32 x = C32.fn x := fun x => by kernel_rfl
theorem B32 : ConB Try.prog 32 C32 := ConB.make FS MIX TY (cons := K32) (L := L32) (ptrs := Q32) ⟨S57, S64, S65, trivial⟩ trivial trivial rfl rfl E32
theorem S32 : ConS Try.prog 32 C32 := B32.call rfl
/-! spec.Decode: function 54 -/
noncomputable def f_spec_Decode (x0 : Int) : Option (Int × Int × Int × Int × Int × Bool) :=
  (f_spec_l1In x0 0 65535).bind fun y9 =>
  bif (!y9) then
    some (0, 0, 0, 0, 0, false)
  else
    (f_spec_InsOk (Int.tmod x0 (16 : Int)) (Int.tmod (IntKind.wrap .i64 (Int.tdiv x0 (16 : Int))) (4 : Int)) (Int.tmod (IntKind.wrap .i64 (Int.tdiv x0 (64 : Int))) (4 : Int)) (Int.tmod (IntKind.wrap .i64 (Int.tdiv x0 (256 : Int))) (4 : Int)) (IntKind.wrap .i64 (Int.tdiv x0 (1024 : Int)))).bind fun y10 =>
    bif (!y10) then
      some (0, 0, 0, 0, 0, false)
    else
      some ((Int.tmod x0 (16 : Int)), (Int.tmod (IntKind.wrap .i64 (Int.tdiv x0 (16 : Int))) (4 : Int)), (Int.tmod (IntKind.wrap .i64 (Int.tdiv x0 (64 : Int))) (4 : Int)), (Int.tmod (IntKind.wrap .i64 (Int.tdiv x0 (256 : Int))) (4 : Int)), (IntKind.wrap .i64 (Int.tdiv x0 (1024 : Int))), true)
noncomputable def C54 : Con := ⟨[(.B, false, [(.int .i64)])], [(true, [(.int .i64), (.int .i64), (.int .i64), (.int .i64), (.int .i64)]), (false, [.bool])], [(.int .i64)], [(.int .i64), (.int .i64), (.int .i64), (.int .i64), (.int .i64), .bool], fun (p : Int) => f_spec_Decode p⟩
noncomputable abbrev K54 : Cons := [(32, C32), (57, C57)]
noncomputable abbrev L54 : List (Nat × Loops) := []
abbrev Q54 : List (Nat × List (Int × Nat) × Nat) := []
noncomputable abbrev X54 : Nat → Ctx := ctxOf tb K54 L54 Q54
theorem E54 : ∀ x, funRun fs X54 6 54 C54 x = C54.fn x := fun x => by kernel_rfl
theorem B54 : ConB Try.prog 54 C54 := ConB.make FS MIX TY (cons := K54) (L := L54) (ptrs := Q54) ⟨S32, S57, trivial⟩ trivial trivial rfl rfl E54
theorem S54 : ConS Try.prog 54 C54 := B54.call rfl
/-! impl.from: function 58 -/
noncomputable def f_impl_from (x0 : Int) (x1 : Int) (x2 : Int) : Option (Bool) :=
  bif (decide (x1 ≤ x0)) then
    some (decide (x0 ≤ x2))
  else
    some false
noncomputable def C58 : Con := ⟨[(.B, false, [(.int .i64)]), (.B, false, [(.int .i64)]), (.B, false, [(.int .i64)])], [(false, [.bool])], [(.int .i64), (.int .i64), (.int .i64)], [.bool], fun (p : Int × Int × Int) => f_impl_from p.1 p.2.1 p.2.2⟩
noncomputable abbrev K58 : Cons := []
noncomputable abbrev L58 : List (Nat × Loops) := []
abbrev Q58 : List (Nat × List (Int × Nat) × Nat) := []
noncomputable abbrev X58 : Nat → Ctx := ctxOf tb K58 L58 Q58
theorem E58 : ∀ x, funRun fs X58 6 58 C58 x = C58.fn x := fun x => by kernel_rfl
theorem B58 : ConB Try.prog 58 C58 := ConB.make FS MIX TY (cons := K58) (L := L58) (ptrs := Q58) trivial trivial trivial rfl rfl E58
theorem S58 : ConS Try.prog 58 C58 := B58.call rfl
/-! impl.isWord: function 83 -/
noncomputable def f_impl_isWord (x0 : Int) : Option (Bool) :=
  (f_impl_from x0 0 65535).bind fun y11 =>
  some y11
noncomputable def C83 : Con := ⟨[(.B, false, [(.int .i64)])], [(false, [.bool])], [(.int .i64)], [.bool], fun (p : Int) => f_impl_isWord p⟩
noncomputable abbrev K83 : Cons := [(58, C58)]
noncomputable abbrev L83 : List (Nat × Loops) := []
abbrev Q83 : List (Nat × List (Int × Nat) × Nat) := []
noncomputable abbrev X83 : Nat → Ctx := ctxOf tb K83 L83 Q83
theorem E83 : ∀ x, funRun fs X83 6 83 C83 x = C83.fn x := fun x => by kernel_rfl
theorem B83 : ConB Try.prog 83 C83 := ConB.make FS MIX TY (cons := K83) (L := L83) (ptrs := Q83) ⟨S58, trivial⟩ trivial trivial rfl rfl E83
theorem S83 : ConS Try.prog 83 C83 := B83.call rfl
/-! impl.form: function 66 -/
noncomputable def f_impl_form (x0 : Int) : Option (ByteArray × Bool) :=
  bif (decide (x0 = (1 : Int))) then
    some ((⟨#[82, 78]⟩ : ByteArray), true)
  else
    bif (decide (x0 = (2 : Int))) then
      some ((⟨#[82, 65, 66]⟩ : ByteArray), true)
    else
      bif (decide (x0 = (10 : Int))) then
        some ((⟨#[82, 65, 66]⟩ : ByteArray), true)
      else
        bif (decide (x0 = (3 : Int))) then
          some ((⟨#[82, 65, 78]⟩ : ByteArray), true)
        else
          bif (decide (x0 = (4 : Int))) then
            some ((⟨#[82, 65, 78]⟩ : ByteArray), true)
          else
            bif (decide (x0 = (5 : Int))) then
              some ((⟨#[65, 66, 78]⟩ : ByteArray), true)
            else
              bif (decide (x0 = (6 : Int))) then
                some ((⟨#[82, 65, 66, 78]⟩ : ByteArray), true)
              else
                bif (decide (x0 = (7 : Int))) then
                  some ((⟨#[65, 78]⟩ : ByteArray), true)
                else
                  bif (decide (x0 = (8 : Int))) then
                    some ((⟨#[78]⟩ : ByteArray), true)
                  else
                    bif (decide (x0 = (9 : Int))) then
                      some ((⟨#[]⟩ : ByteArray), true)
                    else
                      some ((⟨#[]⟩ : ByteArray), false)
noncomputable def C66 : Con := ⟨[(.B, false, [(.int .i64)])], [(false, [.str]), (false, [.bool])], [(.int .i64)], [.str, .bool], fun (p : Int) => f_impl_form p⟩
noncomputable abbrev K66 : Cons := []
noncomputable abbrev L66 : List (Nat × Loops) := []
abbrev Q66 : List (Nat × List (Int × Nat) × Nat) := []
noncomputable abbrev X66 : Nat → Ctx := ctxOf tb K66 L66 Q66
theorem E66 : ∀ x, funRun fs X66 6 66 C66 x = C66.fn x := fun x => by kernel_rfl
theorem B66 : ConB Try.prog 66 C66 := ConB.make FS MIX TY (cons := K66) (L := L66) (ptrs := Q66) trivial trivial trivial rfl rfl E66
theorem S66 : ConS Try.prog 66 C66 := B66.call rfl
/-! impl.InsOk: function 34 -/
noncomputable def f_impl_InsOk.l0 : Nat → Bool → ByteArray → Bool → Int → Int → Int → Int → Int → Int → Int → Int → Int → Int → Int → Int → Option (Bool × Bool × Int × Int × Int × Int × Int × Int × Int × Int × Int × Int)
  | 0, _, _, _, _, _, _, _, _, _, _, _, _, _, _, _ => none
  | n + 1, p13, p14, p15, p16, p17, p18, p19, p20, p21, p22, p23, p24, p25, p26, p27 =>
    bif (decide (p17 < p16)) then
      bif ((decide ((0 : Int) ≤ p17)) && (decide (p17 < (p14.size : Int)))) then
      bif (decide (((p14.data.getD p17.toNat 0).toNat : Int) = (82 : Int))) then
        bif ((decide ((0 : Int) ≤ p17)) && (decide (p17 < (p14.size : Int)))) then
        bif (decide (((p14.data.getD p17.toNat 0).toNat : Int) = (82 : Int))) then
          f_impl_InsOk.l0 n p13 p14 p15 p16 (IntKind.wrap .i64 (p17 + (1 : Int))) p18 p19 p20 p21 p22 p23 p19 p25 p26 p27
        else
          bif (decide (((p14.data.getD p17.toNat 0).toNat : Int) = (65 : Int))) then
            f_impl_InsOk.l0 n p13 p14 p15 p16 (IntKind.wrap .i64 (p17 + (1 : Int))) p18 p19 p20 p21 p22 p23 p20 p25 p26 p27
          else
            bif (decide (((p14.data.getD p17.toNat 0).toNat : Int) = (66 : Int))) then
              f_impl_InsOk.l0 n p13 p14 p15 p16 (IntKind.wrap .i64 (p17 + (1 : Int))) p18 p19 p20 p21 p22 p23 p21 p25 p26 p27
            else
              f_impl_InsOk.l0 n p13 p14 p15 p16 (IntKind.wrap .i64 (p17 + (1 : Int))) p18 p19 p20 p21 p22 p23 p22 p25 p26 p27
        else none
      else
        bif (decide (((p14.data.getD p17.toNat 0).toNat : Int) = (65 : Int))) then
          bif ((decide ((0 : Int) ≤ p17)) && (decide (p17 < (p14.size : Int)))) then
          bif (decide (((p14.data.getD p17.toNat 0).toNat : Int) = (82 : Int))) then
            f_impl_InsOk.l0 n p13 p14 p15 p16 (IntKind.wrap .i64 (p17 + (1 : Int))) p18 p19 p20 p21 p22 p23 p24 p19 p26 p27
          else
            bif (decide (((p14.data.getD p17.toNat 0).toNat : Int) = (65 : Int))) then
              f_impl_InsOk.l0 n p13 p14 p15 p16 (IntKind.wrap .i64 (p17 + (1 : Int))) p18 p19 p20 p21 p22 p23 p24 p20 p26 p27
            else
              bif (decide (((p14.data.getD p17.toNat 0).toNat : Int) = (66 : Int))) then
                f_impl_InsOk.l0 n p13 p14 p15 p16 (IntKind.wrap .i64 (p17 + (1 : Int))) p18 p19 p20 p21 p22 p23 p24 p21 p26 p27
              else
                f_impl_InsOk.l0 n p13 p14 p15 p16 (IntKind.wrap .i64 (p17 + (1 : Int))) p18 p19 p20 p21 p22 p23 p24 p22 p26 p27
          else none
        else
          bif (decide (((p14.data.getD p17.toNat 0).toNat : Int) = (66 : Int))) then
            bif ((decide ((0 : Int) ≤ p17)) && (decide (p17 < (p14.size : Int)))) then
            bif (decide (((p14.data.getD p17.toNat 0).toNat : Int) = (82 : Int))) then
              f_impl_InsOk.l0 n p13 p14 p15 p16 (IntKind.wrap .i64 (p17 + (1 : Int))) p18 p19 p20 p21 p22 p23 p24 p25 p19 p27
            else
              bif (decide (((p14.data.getD p17.toNat 0).toNat : Int) = (65 : Int))) then
                f_impl_InsOk.l0 n p13 p14 p15 p16 (IntKind.wrap .i64 (p17 + (1 : Int))) p18 p19 p20 p21 p22 p23 p24 p25 p20 p27
              else
                bif (decide (((p14.data.getD p17.toNat 0).toNat : Int) = (66 : Int))) then
                  f_impl_InsOk.l0 n p13 p14 p15 p16 (IntKind.wrap .i64 (p17 + (1 : Int))) p18 p19 p20 p21 p22 p23 p24 p25 p21 p27
                else
                  f_impl_InsOk.l0 n p13 p14 p15 p16 (IntKind.wrap .i64 (p17 + (1 : Int))) p18 p19 p20 p21 p22 p23 p24 p25 p22 p27
            else none
          else
            bif ((decide ((0 : Int) ≤ p17)) && (decide (p17 < (p14.size : Int)))) then
            bif (decide (((p14.data.getD p17.toNat 0).toNat : Int) = (82 : Int))) then
              f_impl_InsOk.l0 n p13 p14 p15 p16 (IntKind.wrap .i64 (p17 + (1 : Int))) p18 p19 p20 p21 p22 p23 p24 p25 p26 p19
            else
              bif (decide (((p14.data.getD p17.toNat 0).toNat : Int) = (65 : Int))) then
                f_impl_InsOk.l0 n p13 p14 p15 p16 (IntKind.wrap .i64 (p17 + (1 : Int))) p18 p19 p20 p21 p22 p23 p24 p25 p26 p20
              else
                bif (decide (((p14.data.getD p17.toNat 0).toNat : Int) = (66 : Int))) then
                  f_impl_InsOk.l0 n p13 p14 p15 p16 (IntKind.wrap .i64 (p17 + (1 : Int))) p18 p19 p20 p21 p22 p23 p24 p25 p26 p21
                else
                  f_impl_InsOk.l0 n p13 p14 p15 p16 (IntKind.wrap .i64 (p17 + (1 : Int))) p18 p19 p20 p21 p22 p23 p24 p25 p26 p22
            else none
      else none
    else
      some (p13, p15, p18, p19, p20, p21, p22, p23, p24, p25, p26, p27)
noncomputable def f_impl_InsOk (x0 : Int) (x1 : Int) (x2 : Int) (x3 : Int) (x4 : Int) : Option (Bool) :=
  (f_impl_form x0).bind fun y12 =>
  (f_impl_InsOk.l0 N false y12.1 y12.2 (y12.1.size : Int) 0 x0 x1 x2 x3 x4 x0 0 0 0 0).bind fun r28 =>
  bif r28.2.1 then
    bif ((decide (r28.2.2.2.2.2.2.2.1 = r28.2.2.1)) && ((decide (r28.2.2.2.2.2.2.2.2.1 = r28.2.2.2.1)) && ((decide (r28.2.2.2.2.2.2.2.2.2.1 = r28.2.2.2.2.1)) && ((decide (r28.2.2.2.2.2.2.2.2.2.2.1 = r28.2.2.2.2.2.1)) && (decide (r28.2.2.2.2.2.2.2.2.2.2.2 = r28.2.2.2.2.2.2.1)))))) then
      (f_impl_from r28.2.2.2.1 0 3).bind fun y29 =>
      bif y29 then
        (f_impl_from r28.2.2.2.2.1 0 3).bind fun y30 =>
        bif y30 then
          (f_impl_from r28.2.2.2.2.2.1 0 3).bind fun y31 =>
          bif y31 then
            (f_impl_from r28.2.2.2.2.2.2.1 0 63).bind fun y32 =>
            some y32
          else
            some false
        else
          some false
      else
        some false
    else
      some false
  else
    some false
noncomputable def C34 : Con := ⟨[(.B, true, [(.int .i64), (.int .i64), (.int .i64), (.int .i64), (.int .i64)])], [(false, [.bool])], [(.int .i64), (.int .i64), (.int .i64), (.int .i64), (.int .i64)], [.bool], fun (p : Int × Int × Int × Int × Int) => f_impl_InsOk p.1 p.2.1 p.2.2.1 p.2.2.2.1 p.2.2.2.2⟩
noncomputable def f_impl_InsOk.l0.c : LoopCon := ⟨1000, 6, [1, 2, 3, 4, 5, 17, 18], ⟨[(1, .ptr 1000 0), (2, .bool false), (3, .str ⟨#[]⟩), (4, .bool false), (5, .ptr 1001 0), (17, .int .i64 0), (18, .int .i64 0)], [(1000, .box [.int .i64 0, .int .i64 0, .int .i64 0, .int .i64 0, .int .i64 0]), (1001, .box [.int .i64 0, .int .i64 0, .int .i64 0, .int .i64 0, .int .i64 0])], 1002⟩, [.bool, .str, .bool, (.int .i64), (.int .i64), (.int .i64), (.int .i64), (.int .i64), (.int .i64), (.int .i64), (.int .i64), (.int .i64), (.int .i64), (.int .i64), (.int .i64)], [⟨.exit 0, [1, 2, 4, 5], ⟨[(1, .ptr 1000 0), (2, .bool false), (4, .bool false), (5, .ptr 1001 0)], [(1000, .box [.int .i64 0, .int .i64 0, .int .i64 0, .int .i64 0, .int .i64 0]), (1001, .box [.int .i64 0, .int .i64 0, .int .i64 0, .int .i64 0, .int .i64 0])], 1002⟩, [.bool, .bool, (.int .i64), (.int .i64), (.int .i64), (.int .i64), (.int .i64), (.int .i64), (.int .i64), (.int .i64), (.int .i64), (.int .i64)]⟩], fun (p : Bool × ByteArray × Bool × Int × Int × Int × Int × Int × Int × Int × Int × Int × Int × Int × Int) => f_impl_InsOk.l0 N p.1 p.2.1 p.2.2.1 p.2.2.2.1 p.2.2.2.2.1 p.2.2.2.2.2.1 p.2.2.2.2.2.2.1 p.2.2.2.2.2.2.2.1 p.2.2.2.2.2.2.2.2.1 p.2.2.2.2.2.2.2.2.2.1 p.2.2.2.2.2.2.2.2.2.2.1 p.2.2.2.2.2.2.2.2.2.2.2.1 p.2.2.2.2.2.2.2.2.2.2.2.2.1 p.2.2.2.2.2.2.2.2.2.2.2.2.2.1 p.2.2.2.2.2.2.2.2.2.2.2.2.2.2⟩
noncomputable abbrev K34 : Cons := [(58, C58), (66, C66)]
noncomputable abbrev L34 : List (Nat × Loops) := [(34, [(4, f_impl_InsOk.l0.c)])]
abbrev Q34 : List (Nat × List (Int × Nat) × Nat) := [(67, [(82, 1), (65, 2), (66, 3)], 4)]
noncomputable abbrev X34 : Nat → Ctx := ctxOf tb K34 L34 Q34
theorem f_impl_InsOk.l0.ok : ∀ n p, (fun (p : Bool × ByteArray × Bool × Int × Int × Int × Int × Int × Int × Int × Int × Int × Int × Int × Int) => f_impl_InsOk.l0 n p.1 p.2.1 p.2.2.1 p.2.2.2.1 p.2.2.2.2.1 p.2.2.2.2.2.1 p.2.2.2.2.2.2.1 p.2.2.2.2.2.2.2.1 p.2.2.2.2.2.2.2.2.1 p.2.2.2.2.2.2.2.2.2.1 p.2.2.2.2.2.2.2.2.2.2.1 p.2.2.2.2.2.2.2.2.2.2.2.1 p.2.2.2.2.2.2.2.2.2.2.2.2.1 p.2.2.2.2.2.2.2.2.2.2.2.2.2.1 p.2.2.2.2.2.2.2.2.2.2.2.2.2.2) p = iterD (roundOf fs X34 6 34 4 false f_impl_InsOk.l0.c) n p :=
  iter_of (l := fun n => fun (p : Bool × ByteArray × Bool × Int × Int × Int × Int × Int × Int × Int × Int × Int × Int × Int × Int) => f_impl_InsOk.l0 n p.1 p.2.1 p.2.2.1 p.2.2.2.1 p.2.2.2.2.1 p.2.2.2.2.2.1 p.2.2.2.2.2.2.1 p.2.2.2.2.2.2.2.1 p.2.2.2.2.2.2.2.2.1 p.2.2.2.2.2.2.2.2.2.1 p.2.2.2.2.2.2.2.2.2.2.1 p.2.2.2.2.2.2.2.2.2.2.2.1 p.2.2.2.2.2.2.2.2.2.2.2.2.1 p.2.2.2.2.2.2.2.2.2.2.2.2.2.1 p.2.2.2.2.2.2.2.2.2.2.2.2.2.2) (fun _ => rfl) (fun n p => by kernel_rfl)
theorem E34 : ∀ x, funRun fs X34 6 34 C34 x = C34.fn x := fun x => by kernel_rfl
theorem B34 : ConB Try.prog 34 C34 := ConB.make FS MIX TY (cons := K34) (L := L34) (ptrs := Q34) ⟨S58, S66, trivial⟩ ⟨PT67, trivial⟩ ⟨⟨⟨N, fun p => f_impl_InsOk.l0.ok N p⟩, trivial⟩, trivial⟩ rfl rfl E34
theorem S34 : ConS Try.prog 34 C34 := B34.call rfl
/-! impl.Decode: function 55 -/
noncomputable def f_impl_Decode (x0 : Int) : Option (Int × Int × Int × Int × Int × Bool) :=
  (f_impl_isWord x0).bind fun y33 =>
  bif (!y33) then
    some (0, 0, 0, 0, 0, false)
  else
    (f_impl_InsOk (Int.tmod x0 (16 : Int)) (Int.tmod (IntKind.wrap .i64 (Int.tdiv x0 (16 : Int))) (4 : Int)) (Int.tmod (IntKind.wrap .i64 (Int.tdiv x0 (64 : Int))) (4 : Int)) (Int.tmod (IntKind.wrap .i64 (Int.tdiv x0 (256 : Int))) (4 : Int)) (IntKind.wrap .i64 (Int.tdiv x0 (1024 : Int)))).bind fun y34 =>
    bif (!y34) then
      some (0, 0, 0, 0, 0, false)
    else
      some ((Int.tmod x0 (16 : Int)), (Int.tmod (IntKind.wrap .i64 (Int.tdiv x0 (16 : Int))) (4 : Int)), (Int.tmod (IntKind.wrap .i64 (Int.tdiv x0 (64 : Int))) (4 : Int)), (Int.tmod (IntKind.wrap .i64 (Int.tdiv x0 (256 : Int))) (4 : Int)), (IntKind.wrap .i64 (Int.tdiv x0 (1024 : Int))), true)
noncomputable def C55 : Con := ⟨[(.B, false, [(.int .i64)])], [(true, [(.int .i64), (.int .i64), (.int .i64), (.int .i64), (.int .i64)]), (false, [.bool])], [(.int .i64)], [(.int .i64), (.int .i64), (.int .i64), (.int .i64), (.int .i64), .bool], fun (p : Int) => f_impl_Decode p⟩
noncomputable abbrev K55 : Cons := [(34, C34), (83, C83)]
noncomputable abbrev L55 : List (Nat × Loops) := []
abbrev Q55 : List (Nat × List (Int × Nat) × Nat) := []
noncomputable abbrev X55 : Nat → Ctx := ctxOf tb K55 L55 Q55
theorem E55 : ∀ x, funRun fs X55 6 55 C55 x = C55.fn x := fun x => by kernel_rfl
theorem B55 : ConB Try.prog 55 C55 := ConB.make FS MIX TY (cons := K55) (L := L55) (ptrs := Q55) ⟨S34, S83, trivial⟩ trivial trivial rfl rfl E55
theorem S55 : ConS Try.prog 55 C55 := B55.call rfl
/-! laws.eqIns: function 56 -/
noncomputable def f_laws_eqIns (x0 : Int) (x1 : Int) (x2 : Int) (x3 : Int) (x4 : Int) (x5 : Int) (x6 : Int) (x7 : Int) (x8 : Int) (x9 : Int) : Option (Bool) :=
  bif (!(decide (x0 = x5))) then
    some false
  else
    bif (!(decide (x1 = x6))) then
      some false
    else
      bif (!(decide (x2 = x7))) then
        some false
      else
        bif (!(decide (x3 = x8))) then
          some false
        else
          bif (!(decide (x4 = x9))) then
            some false
          else
            some true
noncomputable def C56 : Con := ⟨[(.B, true, [(.int .i64), (.int .i64), (.int .i64), (.int .i64), (.int .i64)]), (.B, true, [(.int .i64), (.int .i64), (.int .i64), (.int .i64), (.int .i64)])], [(false, [.bool])], [(.int .i64), (.int .i64), (.int .i64), (.int .i64), (.int .i64), (.int .i64), (.int .i64), (.int .i64), (.int .i64), (.int .i64)], [.bool], fun (p : Int × Int × Int × Int × Int × Int × Int × Int × Int × Int) => f_laws_eqIns p.1 p.2.1 p.2.2.1 p.2.2.2.1 p.2.2.2.2.1 p.2.2.2.2.2.1 p.2.2.2.2.2.2.1 p.2.2.2.2.2.2.2.1 p.2.2.2.2.2.2.2.2.1 p.2.2.2.2.2.2.2.2.2⟩
noncomputable abbrev K56 : Cons := []
noncomputable abbrev L56 : List (Nat × Loops) := []
abbrev Q56 : List (Nat × List (Int × Nat) × Nat) := []
noncomputable abbrev X56 : Nat → Ctx := ctxOf tb K56 L56 Q56
theorem E56 : ∀ x, funRun fs X56 6 56 C56 x = C56.fn x := fun x => by kernel_rfl
theorem B56 : ConB Try.prog 56 C56 := ConB.make FS MIX TY (cons := K56) (L := L56) (ptrs := Q56) trivial trivial trivial rfl rfl E56
theorem S56 : ConS Try.prog 56 C56 := B56.call rfl
/-! laws.FnExactDecode: function 14 -/
noncomputable def f_laws_FnExactDecode (x0 : Int) : Option (Bool) :=
  (f_spec_Decode x0).bind fun y35 =>
  (f_impl_Decode x0).bind fun y36 =>
  (f_laws_eqIns y36.1 y36.2.1 y36.2.2.1 y36.2.2.2.1 y36.2.2.2.2.1 y35.1 y35.2.1 y35.2.2.1 y35.2.2.2.1 y35.2.2.2.2.1).bind fun y37 =>
  bif (!y37) then
    some false
  else
    bif (!(y36.2.2.2.2.2 == y35.2.2.2.2.2)) then
      some false
    else
      some true
noncomputable def C14 : Con := ⟨[(.B, false, [(.int .i64)])], [(false, [.bool])], [(.int .i64)], [.bool], fun (p : Int) => f_laws_FnExactDecode p⟩
noncomputable abbrev K14 : Cons := [(54, C54), (55, C55), (56, C56)]
noncomputable abbrev L14 : List (Nat × Loops) := []
abbrev Q14 : List (Nat × List (Int × Nat) × Nat) := []
noncomputable abbrev X14 : Nat → Ctx := ctxOf tb K14 L14 Q14
theorem E14 : ∀ x, funRun fs X14 6 14 C14 x = C14.fn x := fun x => by kernel_rfl
theorem B14 : ConB Try.prog 14 C14 := ConB.make FS MIX TY (cons := K14) (L := L14) (ptrs := Q14) ⟨S54, S55, S56, trivial⟩ trivial trivial rfl rfl E14
theorem S14 : ConS Try.prog 14 C14 := B14.call rfl
/-- What is left: the plain law. -/
def Pure : Prop := ∀ x : Tup [(.int .i64)], WfT [(.int .i64)] x → C14.fn x = some (true : Bool)
end
end Go.Abs
