import Derived.Test.YtekpagfagciflaaProg
import Derived.Test.YtekpagfagciflaaAbsC
import Derived.KernelRfl
namespace Go.Abs
open Go.Proofs
set_option linter.unusedVariables false
set_option maxRecDepth 100000
noncomputable section
abbrev N : Nat := 1152921504606846976
noncomputable def tb : Tb := [(0, ⟨false, [], [], 0, 0⟩),
  (3, ⟨false, [(.int .i64)], [], 0, 8⟩),
  (4, ⟨false, [.bool], [], 0, 1⟩),
  (24, ⟨true, [(.int .i64)], [(0, 3)], 0, 8⟩),
  (25, ⟨true, [(.int .i64)], [(0, 3)], 0, 8⟩),
  (26, ⟨false, [], [], 0, 0⟩)]
noncomputable def fsL : List (Nat × Func) := [(16, Try.f16), (57, Try.f57), (15, Try.f15), (58, Try.f58), (17, Try.f17), (18, Try.f18), (4, Try.f4)]
noncomputable def fs : Nat → Option Func := getF fsL
theorem MIX : Try.prog.follows .mixedOrders = true := by kernel_rfl
theorem TY : tyCheck Try.prog tb = true := by kernel_rfl
theorem CAT : catCheck tb = true := by kernel_rfl
theorem FSP : FsP Try.prog fsL := ⟨Try.func16, Try.func57, Try.func15, Try.func58, Try.func17, Try.func18, Try.func4, trivial⟩
theorem FSC : (fsL.all fun p => fnChk p.2) = true := by kernel_rfl
theorem FS : FsS Try.prog fs := FsS.of FSP FSC
/-! laws.toReceiver: function 16 -/
noncomputable def f_laws_toReceiver (x0 : Int) : Option (Int) :=
  some x0
noncomputable def C16 : Con := ⟨[(.B, true, [(.int .i64)])], [(true, [(.int .i64)])], [(.int .i64)], [(.int .i64)], fun (p : Int) => f_laws_toReceiver p⟩
noncomputable abbrev K16 : Cons := []
noncomputable abbrev L16 : List (Nat × Loops) := []
abbrev Q16 : List (Nat × List (Int × Nat) × Nat) := []
noncomputable abbrev X16 : Nat → Ctx := ctxOf tb K16 L16 Q16
theorem E16 : ∀ x, funRun fs X16 6 16 C16 x = C16.fn x := fun x => by kernel_rfl
theorem B16 : ConB Try.prog 16 C16 := ConB.make FS MIX TY (cons := K16) (L := L16) (ptrs := Q16) trivial trivial trivial rfl rfl E16
theorem S16 : ConS Try.prog 16 C16 := B16.call rfl
/-! spec.l1In: function 57 -/
noncomputable def f_spec_l1In (x0 : Int) (x1 : Int) (x2 : Int) : Option (Bool) :=
  bif (decide (x1 ≤ x0)) then
    some (decide (x0 ≤ x2))
  else
    some false
noncomputable def C57 : Con := ⟨[(.B, false, [(.int .i64)]), (.B, false, [(.int .i64)]), (.B, false, [(.int .i64)])], [(false, [.bool])], [(.int .i64), (.int .i64), (.int .i64)], [.bool], fun (p : Int × Int × Int) => f_spec_l1In p.1 p.2.1 p.2.2⟩
noncomputable abbrev K57 : Cons := []
noncomputable abbrev L57 : List (Nat × Loops) := []
abbrev Q57 : List (Nat × List (Int × Nat) × Nat) := []
noncomputable abbrev X57 : Nat → Ctx := ctxOf tb K57 L57 Q57
theorem E57 : ∀ x, funRun fs X57 6 57 C57 x = C57.fn x := fun x => by kernel_rfl
theorem B57 : ConB Try.prog 57 C57 := ConB.make FS MIX TY (cons := K57) (L := L57) (ptrs := Q57) trivial trivial trivial rfl rfl E57
theorem S57 : ConS Try.prog 57 C57 := B57.call rfl
/-! spec.Arrived: function 15 -/
noncomputable def f_spec_Arrived (x0 : Int) (x1 : Int) : Option (Int × Bool) :=
  bif (!(decide (x1 = x0))) then
    some (x0, false)
  else
    (f_spec_l1In x0 0 99999).bind fun y1 =>
    bif (!y1) then
      some (x0, false)
    else
      some ((IntKind.wrap .i64 (x0 + (1 : Int))), true)
noncomputable def C15 : Con := ⟨[(.B, true, [(.int .i64)]), (.B, false, [(.int .i64)])], [(true, [(.int .i64)]), (false, [.bool])], [(.int .i64), (.int .i64)], [(.int .i64), .bool], fun (p : Int × Int) => f_spec_Arrived p.1 p.2⟩
noncomputable abbrev K15 : Cons := [(57, C57)]
noncomputable abbrev L15 : List (Nat × Loops) := []
abbrev Q15 : List (Nat × List (Int × Nat) × Nat) := []
noncomputable abbrev X15 : Nat → Ctx := ctxOf tb K15 L15 Q15
theorem E15 : ∀ x, funRun fs X15 6 15 C15 x = C15.fn x := fun x => by kernel_rfl
theorem B15 : ConB Try.prog 15 C15 := ConB.make FS MIX TY (cons := K15) (L := L15) (ptrs := Q15) ⟨S57, trivial⟩ trivial trivial rfl rfl E15
theorem S15 : ConS Try.prog 15 C15 := B15.call rfl
/-! impl.from: function 58 -/
noncomputable def f_impl_from (x0 : Int) (x1 : Int) (x2 : Int) : Option (Bool) :=
  bif (decide (x1 ≤ x0)) then
    some (decide (x0 ≤ x2))
  else
    some false
noncomputable def C58 : Con := ⟨[(.B, false, [(.int .i64)]), (.B, false, [(.int .i64)]), (.B, false, [(.int .i64)])], [(false, [.bool])], [(.int .i64), (.int .i64), (.int .i64)], [.bool], fun (p : Int × Int × Int) => f_impl_from p.1 p.2.1 p.2.2⟩
noncomputable abbrev K58 : Cons := []
noncomputable abbrev L58 : List (Nat × Loops) := []
abbrev Q58 : List (Nat × List (Int × Nat) × Nat) := []
noncomputable abbrev X58 : Nat → Ctx := ctxOf tb K58 L58 Q58
theorem E58 : ∀ x, funRun fs X58 6 58 C58 x = C58.fn x := fun x => by kernel_rfl
theorem B58 : ConB Try.prog 58 C58 := ConB.make FS MIX TY (cons := K58) (L := L58) (ptrs := Q58) trivial trivial trivial rfl rfl E58
theorem S58 : ConS Try.prog 58 C58 := B58.call rfl
/-! impl.Arrived: function 17 -/
noncomputable def f_impl_Arrived (x0 : Int) (x1 : Int) : Option (Int × Bool) :=
  bif (!(decide (x1 = x0))) then
    some (x0, false)
  else
    (f_impl_from x0 0 99999).bind fun y2 =>
    bif (!y2) then
      some (x0, false)
    else
      some ((IntKind.wrap .i64 (x0 + (1 : Int))), true)
noncomputable def C17 : Con := ⟨[(.B, true, [(.int .i64)]), (.B, false, [(.int .i64)])], [(true, [(.int .i64)]), (false, [.bool])], [(.int .i64), (.int .i64)], [(.int .i64), .bool], fun (p : Int × Int) => f_impl_Arrived p.1 p.2⟩
noncomputable abbrev K17 : Cons := [(58, C58)]
noncomputable abbrev L17 : List (Nat × Loops) := []
abbrev Q17 : List (Nat × List (Int × Nat) × Nat) := []
noncomputable abbrev X17 : Nat → Ctx := ctxOf tb K17 L17 Q17
theorem E17 : ∀ x, funRun fs X17 6 17 C17 x = C17.fn x := fun x => by kernel_rfl
theorem B17 : ConB Try.prog 17 C17 := ConB.make FS MIX TY (cons := K17) (L := L17) (ptrs := Q17) ⟨S58, trivial⟩ trivial trivial rfl rfl E17
theorem S17 : ConS Try.prog 17 C17 := B17.call rfl
/-! laws.eqReceiver: function 18 -/
noncomputable def f_laws_eqReceiver (x0 : Int) (x1 : Int) : Option (Bool) :=
  bif (!(decide (x0 = x1))) then
    some false
  else
    some true
noncomputable def C18 : Con := ⟨[(.B, true, [(.int .i64)]), (.B, true, [(.int .i64)])], [(false, [.bool])], [(.int .i64), (.int .i64)], [.bool], fun (p : Int × Int) => f_laws_eqReceiver p.1 p.2⟩
noncomputable abbrev K18 : Cons := []
noncomputable abbrev L18 : List (Nat × Loops) := []
abbrev Q18 : List (Nat × List (Int × Nat) × Nat) := []
noncomputable abbrev X18 : Nat → Ctx := ctxOf tb K18 L18 Q18
theorem E18 : ∀ x, funRun fs X18 6 18 C18 x = C18.fn x := fun x => by kernel_rfl
theorem B18 : ConB Try.prog 18 C18 := ConB.make FS MIX TY (cons := K18) (L := L18) (ptrs := Q18) trivial trivial trivial rfl rfl E18
theorem S18 : ConS Try.prog 18 C18 := B18.call rfl
/-! laws.FnExactArrived: function 4 -/
noncomputable def f_laws_FnExactArrived (x0 : Int) (x1 : Int) : Option (Bool) :=
  (f_laws_toReceiver x0).bind fun y3 =>
  (f_spec_Arrived y3 x1).bind fun y4 =>
  (f_laws_toReceiver x0).bind fun y5 =>
  (f_impl_Arrived y5 x1).bind fun y6 =>
  (f_laws_eqReceiver y6.1 y4.1).bind fun y7 =>
  bif (!y7) then
    some false
  else
    bif (!(y6.2 == y4.2)) then
      some false
    else
      some true
noncomputable def C4 : Con := ⟨[(.B, true, [(.int .i64)]), (.B, false, [(.int .i64)])], [(false, [.bool])], [(.int .i64), (.int .i64)], [.bool], fun (p : Int × Int) => f_laws_FnExactArrived p.1 p.2⟩
noncomputable abbrev K4 : Cons := [(15, C15), (16, C16), (17, C17), (18, C18)]
noncomputable abbrev L4 : List (Nat × Loops) := []
abbrev Q4 : List (Nat × List (Int × Nat) × Nat) := []
noncomputable abbrev X4 : Nat → Ctx := ctxOf tb K4 L4 Q4
theorem E4 : ∀ x, funRun fs X4 6 4 C4 x = C4.fn x := fun x => by kernel_rfl
theorem B4 : ConB Try.prog 4 C4 := ConB.make FS MIX TY (cons := K4) (L := L4) (ptrs := Q4) ⟨S15, S16, S17, S18, trivial⟩ trivial trivial rfl rfl E4
theorem S4 : ConS Try.prog 4 C4 := B4.call rfl
/-- What is left: the plain law. -/
def Pure : Prop := ∀ x : Tup [(.int .i64), (.int .i64)], WfT [(.int .i64), (.int .i64)] x → C4.fn x = some (true : Bool)
end
end Go.Abs
