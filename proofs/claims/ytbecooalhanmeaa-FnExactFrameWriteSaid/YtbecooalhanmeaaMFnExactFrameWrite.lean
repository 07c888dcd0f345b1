import Derived.Test.YtbecooalhanmeaaProg
import Derived.Test.YtbecooalhanmeaaAbsD
import Derived.KernelRfl
namespace Go.Abs
open Go.Proofs
set_option linter.unusedVariables false
set_option maxRecDepth 100000
noncomputable section
abbrev N : Nat := 1152921504606846976
abbrev R0 : RT := .one (.int .i64)
noncomputable def tb : Tb := [(0, ⟨false, [], [], 0, 0⟩),
  (3, ⟨false, [(.int .i64)], [], 0, 8⟩),
  (4, ⟨false, [.bool], [], 0, 1⟩),
  (22, ⟨false, [(.sl R0)], [], 3, 24⟩),
  (32, ⟨true, [(.int .i64), (.sl R0), .bool], [(0, 3), (1, 22), (2, 4)], 0, 40⟩),
  (36, ⟨true, [(.int .i64), (.sl R0), .bool], [(0, 3), (1, 22), (2, 4)], 0, 40⟩),
  (48, ⟨false, [], [], 0, 0⟩),
  (70, ⟨false, [], [], 0, 8⟩)]
noncomputable def fsL : List (Nat × Func) := [(68, Try.f68), (20, Try.f20), (27, Try.f27), (22, Try.f22), (81, Try.f81), (69, Try.f69), (70, Try.f70), (74, Try.f74), (30, Try.f30), (119, Try.f119), (82, Try.f82), (71, Try.f71), (83, Try.f83), (114, Try.f114), (122, Try.f122), (113, Try.f113), (73, Try.f73), (75, Try.f75), (31, Try.f31), (29, Try.f29), (24, Try.f24), (84, Try.f84), (32, Try.f32), (85, Try.f85), (33, Try.f33), (6, Try.f6)]
noncomputable def fs : Nat → Option Func := getF fsL
theorem MIX : Try.prog.follows .mixedOrders = true := by kernel_rfl
theorem TY : tyCheck Try.prog tb = true := by kernel_rfl
theorem CAT : catCheck tb = true := by kernel_rfl
theorem FSP : FsP Try.prog fsL := ⟨Try.func68, Try.func20, Try.func27, Try.func22, Try.func81, Try.func69, Try.func70, Try.func74, Try.func30, Try.func119, Try.func82, Try.func71, Try.func83, Try.func114, Try.func122, Try.func113, Try.func73, Try.func75, Try.func31, Try.func29, Try.func24, Try.func84, Try.func32, Try.func85, Try.func33, Try.func6, trivial⟩
theorem FSC : (fsL.all fun p => fnChk p.2) = true := by kernel_rfl
theorem FS : FsS Try.prog fs := FsS.of FSP FSC
/-! laws.szIntS: function 68 -/
noncomputable def f_laws_szIntS (x0 : List Int) (x1 : Int) : Option (Int) :=
  bif (decide ((IntKind.wrap .i64 (x1 - (x0.length : Int))) < (0 : Int))) then
    some (-1)
  else
    some (IntKind.wrap .i64 (x1 - (x0.length : Int)))
noncomputable def C68 : Con := ⟨[(.B, false, [(.sl R0)]), (.B, false, [(.int .i64)])], [(false, [(.int .i64)])], [(.sl R0), (.int .i64)], [(.int .i64)], fun (p : List Int × Int) => f_laws_szIntS p.1 p.2⟩
noncomputable abbrev K68 : Cons := []
noncomputable abbrev L68 : List (Nat × Loops) := []
abbrev Q68 : List (Nat × List (Int × Nat) × Nat) := []
noncomputable abbrev X68 : Nat → Ctx := ctxOf tb K68 L68 Q68
theorem E68 : ∀ x, funRun fs X68 6 68 C68 x = C68.fn x := fun x => by kernel_rfl
theorem B68 : ConB Try.prog 68 C68 := ConB.make FS MIX TY (cons := K68) (L := L68) (ptrs := Q68) trivial trivial trivial rfl rfl E68
theorem S68 : ConS Try.prog 68 C68 := B68.call rfl
/-! laws.szFrame: function 20 -/
noncomputable def f_laws_szFrame (x0 : Int) (x1 : List Int) (x2 : Bool) (x3 : Int) : Option (Int) :=
  (f_laws_szIntS x1 x3).bind fun y1 =>
  bif (decide (y1 < (0 : Int))) then
    some (-1)
  else
    some y1
noncomputable def C20 : Con := ⟨[(.B, true, [(.int .i64), (.sl R0), .bool]), (.B, false, [(.int .i64)])], [(false, [(.int .i64)])], [(.int .i64), (.sl R0), .bool, (.int .i64)], [(.int .i64)], fun (p : Int × List Int × Bool × Int) => f_laws_szFrame p.1 p.2.1 p.2.2.1 p.2.2.2⟩
noncomputable abbrev K20 : Cons := [(68, C68)]
noncomputable abbrev L20 : List (Nat × Loops) := []
abbrev Q20 : List (Nat × List (Int × Nat) × Nat) := []
noncomputable abbrev X20 : Nat → Ctx := ctxOf tb K20 L20 Q20
theorem E20 : ∀ x, funRun fs X20 6 20 C20 x = C20.fn x := fun x => by kernel_rfl
theorem B20 : ConB Try.prog 20 C20 := ConB.make FS MIX TY (cons := K20) (L := L20) (ptrs := Q20) ⟨S68, trivial⟩ trivial trivial rfl rfl E20
theorem S20 : ConS Try.prog 20 C20 := B20.call rfl
/-! laws.toIntS: function 27 -/
noncomputable def f_laws_toIntS.l0 : Nat → (List Int) → Int → (List Int) → Option (List Int)
  | 0, _, _, _ => none
  | n + 1, p2, p3, p4 =>
    bif (decide (p3 < (p2.length : Int))) then
      bif ((decide ((0 : Int) ≤ p3)) && (decide (p3 < (p2.length : Int)))) then
      bif ((decide ((0 : Int) ≤ p3)) && (decide (p3 < (p4.length : Int)))) then
      (some ((p4.set p3.toNat (p2.getD p3.toNat 0)) : List Int)).bind fun z5 =>
      f_laws_toIntS.l0 n p2 (IntKind.wrap .i64 (p3 + (1 : Int))) z5
      else none
      else none
    else
      some p4
noncomputable def f_laws_toIntS (x0 : List Int) : Option (List Int) :=
  bif (decide ((0 : Int) ≤ (x0.length : Int)) && Nat.ble (x0.length : Int).toNat 17592186044416) then
  (f_laws_toIntS.l0 N x0 0 (List.replicate (x0.length : Int).toNat 0)).bind fun r6 =>
  some r6
  else none
noncomputable def C27 : Con := ⟨[(.B, false, [(.sl R0)])], [(false, [(.sl R0)])], [(.sl R0)], [(.sl R0)], fun (p : List Int) => f_laws_toIntS p⟩
noncomputable def f_laws_toIntS.l0.c : LoopCon := ⟨1000, 6, [0, 2, 3, 4], ⟨[(0, .bor none R0 []), (2, .nil (some R0)), (3, .ref 1000 [] none), (4, .int .i64 0)], [(1000, .row R0 [])], 1001⟩, [(.sl R0), (.int .i64), (.sl R0)], [⟨.exit 0, [2, 3], ⟨[(2, .nil (some R0)), (3, .ref 1000 [] none)], [(1000, .row R0 [])], 1001⟩, [(.sl R0)]⟩], fun (p : List Int × Int × List Int) => f_laws_toIntS.l0 N p.1 p.2.1 p.2.2⟩
noncomputable abbrev K27 : Cons := []
noncomputable abbrev L27 : List (Nat × Loops) := [(27, [(3, f_laws_toIntS.l0.c)])]
abbrev Q27 : List (Nat × List (Int × Nat) × Nat) := []
noncomputable abbrev X27 : Nat → Ctx := ctxOf tb K27 L27 Q27
theorem f_laws_toIntS.l0.ok : ∀ n p, (fun (p : List Int × Int × List Int) => f_laws_toIntS.l0 n p.1 p.2.1 p.2.2) p = iterD (roundOf fs X27 6 27 3 false f_laws_toIntS.l0.c) n p :=
  iter_of (l := fun n => fun (p : List Int × Int × List Int) => f_laws_toIntS.l0 n p.1 p.2.1 p.2.2) (fun _ => rfl) (fun n p => by kernel_rfl)
theorem E27 : ∀ x, funRun fs X27 6 27 C27 x = C27.fn x := fun x => by kernel_rfl
theorem B27 : ConB Try.prog 27 C27 := ConB.make FS MIX TY (cons := K27) (L := L27) (ptrs := Q27) trivial trivial ⟨⟨⟨N, fun p => f_laws_toIntS.l0.ok N p⟩, trivial⟩, trivial⟩ rfl rfl E27
theorem S27 : ConS Try.prog 27 C27 := B27.call rfl
/-! laws.toFrame: function 22 -/
noncomputable def f_laws_toFrame (x0 : Int) (x1 : List Int) (x2 : Bool) : Option (Int × List Int × Bool) :=
  (f_laws_toIntS x1).bind fun y7 =>
  some (x0, y7, x2)
noncomputable def C22 : Con := ⟨[(.B, true, [(.int .i64), (.sl R0), .bool])], [(true, [(.int .i64), (.sl R0), .bool])], [(.int .i64), (.sl R0), .bool], [(.int .i64), (.sl R0), .bool], fun (p : Int × List Int × Bool) => f_laws_toFrame p.1 p.2.1 p.2.2⟩
noncomputable abbrev K22 : Cons := [(27, C27)]
noncomputable abbrev L22 : List (Nat × Loops) := []
abbrev Q22 : List (Nat × List (Int × Nat) × Nat) := []
noncomputable abbrev X22 : Nat → Ctx := ctxOf tb K22 L22 Q22
theorem E22 : ∀ x, funRun fs X22 6 22 C22 x = C22.fn x := fun x => by kernel_rfl
theorem B22 : ConB Try.prog 22 C22 := ConB.make FS MIX TY (cons := K22) (L := L22) (ptrs := Q22) ⟨S27, trivial⟩ trivial trivial rfl rfl E22
theorem S22 : ConS Try.prog 22 C22 := B22.call rfl
/-! spec.l3Copy: function 81 -/
noncomputable def f_spec_l3Copy (x0 : Int) (x1 : List Int) (x2 : Bool) : Option (Int × List Int × Bool) :=
  bif (Nat.blt (([] : List Int).length + x1.length) 17592186044416) then
  (some ((([] : List Int) ++ x1) : List Int)).bind fun z8 =>
  some (x0, z8, x2)
  else none
noncomputable def C81 : Con := ⟨[(.B, true, [(.int .i64), (.sl R0), .bool])], [(true, [(.int .i64), (.sl R0), .bool])], [(.int .i64), (.sl R0), .bool], [(.int .i64), (.sl R0), .bool], fun (p : Int × List Int × Bool) => f_spec_l3Copy p.1 p.2.1 p.2.2⟩
noncomputable abbrev K81 : Cons := []
noncomputable abbrev L81 : List (Nat × Loops) := []
abbrev Q81 : List (Nat × List (Int × Nat) × Nat) := []
noncomputable abbrev X81 : Nat → Ctx := ctxOf tb K81 L81 Q81
theorem E81 : ∀ x, funRun fs X81 6 81 C81 x = C81.fn x := fun x => by kernel_rfl
theorem B81 : ConB Try.prog 81 C81 := ConB.make FS MIX TY (cons := K81) (L := L81) (ptrs := Q81) trivial trivial trivial rfl rfl E81
theorem S81 : ConS Try.prog 81 C81 := B81.call rfl
/-! spec.l1In: function 69 -/
noncomputable def f_spec_l1In (x0 : Int) (x1 : Int) (x2 : Int) : Option (Bool) :=
  bif (decide (x1 ≤ x0)) then
    some (decide (x0 ≤ x2))
  else
    some false
noncomputable def C69 : Con := ⟨[(.B, false, [(.int .i64)]), (.B, false, [(.int .i64)]), (.B, false, [(.int .i64)])], [(false, [.bool])], [(.int .i64), (.int .i64), (.int .i64)], [.bool], fun (p : Int × Int × Int) => f_spec_l1In p.1 p.2.1 p.2.2⟩
noncomputable abbrev K69 : Cons := []
noncomputable abbrev L69 : List (Nat × Loops) := []
abbrev Q69 : List (Nat × List (Int × Nat) × Nat) := []
noncomputable abbrev X69 : Nat → Ctx := ctxOf tb K69 L69 Q69
theorem E69 : ∀ x, funRun fs X69 6 69 C69 x = C69.fn x := fun x => by kernel_rfl
theorem B69 : ConB Try.prog 69 C69 := ConB.make FS MIX TY (cons := K69) (L := L69) (ptrs := Q69) trivial trivial trivial rfl rfl E69
theorem S69 : ConS Try.prog 69 C69 := B69.call rfl
/-! spec.l1Words: function 70 -/
noncomputable def f_spec_l1Words.l0 : Nat → (List Int) → Int → Bool → Int → Option ((Bool) ⊕ (List Int × Int × Bool))
  | 0, _, _, _, _ => none
  | n + 1, p9, p10, p11, p12 =>
    bif (decide (p12 < (p9.length : Int))) then
      bif ((decide ((0 : Int) ≤ p12)) && (decide (p12 < (p9.length : Int)))) then
      (f_spec_l1In (p9.getD p12.toNat 0) 0 65535).bind fun y13 =>
      bif (!y13) then
        some (.inl false)
      else
        f_spec_l1Words.l0 n p9 p10 p11 (IntKind.wrap .i64 (p12 + (1 : Int)))
      else none
    else
      some (.inr (p9, p10, p11))
noncomputable def f_spec_l1Words (x0 : List Int) (x1 : Int) : Option (Bool) :=
  (f_spec_l1Words.l0 N x0 x1 false 0).bind fun r14 =>
  cs r14 (fun a15 =>
    some a15) (fun b16 =>
    some (decide ((b16.1.length : Int) = b16.2.1)))
noncomputable def C70 : Con := ⟨[(.B, false, [(.sl R0)]), (.B, false, [(.int .i64)])], [(false, [.bool])], [(.sl R0), (.int .i64)], [.bool], fun (p : List Int × Int) => f_spec_l1Words p.1 p.2⟩
noncomputable def f_spec_l1Words.l0.c : LoopCon := ⟨1000, 6, [0, 1, 4, 5], ⟨[(0, .bor none R0 []), (1, .int .i64 0), (4, .bool false), (5, .int .i64 0)], [], 1000⟩, [(.sl R0), (.int .i64), .bool, (.int .i64)], [⟨.ret, [4], ⟨[(4, .bool false)], [], 1000⟩, [.bool]⟩, ⟨.exit 0, [0, 1, 4], ⟨[(0, .bor none R0 []), (1, .int .i64 0), (4, .bool false)], [], 1000⟩, [(.sl R0), (.int .i64), .bool]⟩], fun (p : List Int × Int × Bool × Int) => f_spec_l1Words.l0 N p.1 p.2.1 p.2.2.1 p.2.2.2⟩
noncomputable abbrev K70 : Cons := [(69, C69)]
noncomputable abbrev L70 : List (Nat × Loops) := [(70, [(2, f_spec_l1Words.l0.c)])]
abbrev Q70 : List (Nat × List (Int × Nat) × Nat) := []
noncomputable abbrev X70 : Nat → Ctx := ctxOf tb K70 L70 Q70
theorem f_spec_l1Words.l0.ok : ∀ n p, (fun (p : List Int × Int × Bool × Int) => f_spec_l1Words.l0 n p.1 p.2.1 p.2.2.1 p.2.2.2) p = iterD (roundOf fs X70 6 70 2 false f_spec_l1Words.l0.c) n p :=
  iter_of (l := fun n => fun (p : List Int × Int × Bool × Int) => f_spec_l1Words.l0 n p.1 p.2.1 p.2.2.1 p.2.2.2) (fun _ => rfl) (fun n p => by kernel_rfl)
theorem E70 : ∀ x, funRun fs X70 6 70 C70 x = C70.fn x := fun x => by kernel_rfl
theorem B70 : ConB Try.prog 70 C70 := ConB.make FS MIX TY (cons := K70) (L := L70) (ptrs := Q70) ⟨S69, trivial⟩ trivial ⟨⟨⟨N, fun p => f_spec_l1Words.l0.ok N p⟩, trivial⟩, trivial⟩ rfl rfl E70
theorem S70 : ConS Try.prog 70 C70 := B70.call rfl
/-! spec.FrameOk: function 74 -/
noncomputable def f_spec_FrameOk (x0 : Int) (x1 : List Int) (x2 : Bool) : Option (Bool) :=
  bif (decide (x0 = (0 : Int))) then
    some (decide ((x1.length : Int) = (0 : Int)))
  else
    (f_spec_l1In x0 0 2).bind fun y17 =>
    bif y17 then
      (f_spec_l1Words x1 4).bind fun y18 =>
      some y18
    else
      some false
noncomputable def C74 : Con := ⟨[(.B, true, [(.int .i64), (.sl R0), .bool])], [(false, [.bool])], [(.int .i64), (.sl R0), .bool], [.bool], fun (p : Int × List Int × Bool) => f_spec_FrameOk p.1 p.2.1 p.2.2⟩
noncomputable abbrev K74 : Cons := [(69, C69), (70, C70)]
noncomputable abbrev L74 : List (Nat × Loops) := []
abbrev Q74 : List (Nat × List (Int × Nat) × Nat) := []
noncomputable abbrev X74 : Nat → Ctx := ctxOf tb K74 L74 Q74
theorem E74 : ∀ x, funRun fs X74 6 74 C74 x = C74.fn x := fun x => by kernel_rfl
theorem B74 : ConB Try.prog 74 C74 := ConB.make FS MIX TY (cons := K74) (L := L74) (ptrs := Q74) ⟨S69, S70, trivial⟩ trivial trivial rfl rfl E74
theorem S74 : ConS Try.prog 74 C74 := B74.call rfl
/-! spec.FrameWrite: function 30 -/
noncomputable def f_spec_FrameWrite (x0 : Int) (x1 : List Int) (x2 : Bool) (x3 : Int) (x4 : Int) : Option (Int × List Int × Bool × Bool) :=
  (f_spec_l3Copy x0 x1 x2).bind fun y19 =>
  (f_spec_FrameOk x0 x1 x2).bind fun y20 =>
  bif (!y20) then
    some (y19.1, y19.2.1, y19.2.2, false)
  else
    bif (!(decide (x0 = (2 : Int)))) then
      some (y19.1, y19.2.1, y19.2.2, false)
    else
      (f_spec_l1In x3 0 3).bind fun y21 =>
      bif (!y21) then
        some (y19.1, y19.2.1, y19.2.2, false)
      else
        (f_spec_l1In x4 0 65535).bind fun y22 =>
        bif (!y22) then
          some (y19.1, y19.2.1, y19.2.2, false)
        else
          bif ((decide ((0 : Int) ≤ x3)) && (decide (x3 < (y19.2.1.length : Int)))) then
          (some ((y19.2.1.set x3.toNat x4) : List Int)).bind fun z23 =>
          some (y19.1, z23, y19.2.2, true)
          else none
noncomputable def C30 : Con := ⟨[(.B, true, [(.int .i64), (.sl R0), .bool]), (.B, false, [(.int .i64)]), (.B, false, [(.int .i64)])], [(true, [(.int .i64), (.sl R0), .bool]), (false, [.bool])], [(.int .i64), (.sl R0), .bool, (.int .i64), (.int .i64)], [(.int .i64), (.sl R0), .bool, .bool], fun (p : Int × List Int × Bool × Int × Int) => f_spec_FrameWrite p.1 p.2.1 p.2.2.1 p.2.2.2.1 p.2.2.2.2⟩
noncomputable abbrev K30 : Cons := [(69, C69), (74, C74), (81, C81)]
noncomputable abbrev L30 : List (Nat × Loops) := []
abbrev Q30 : List (Nat × List (Int × Nat) × Nat) := []
noncomputable abbrev X30 : Nat → Ctx := ctxOf tb K30 L30 Q30
theorem E30 : ∀ x, funRun fs X30 6 30 C30 x = C30.fn x := fun x => by kernel_rfl
theorem B30 : ConB Try.prog 30 C30 := ConB.make FS MIX TY (cons := K30) (L := L30) (ptrs := Q30) ⟨S69, S74, S81, trivial⟩ trivial trivial rfl rfl E30
theorem S30 : ConS Try.prog 30 C30 := B30.call rfl
/-! slices.Clone[[]int,int]: function 119 -/
noncomputable def f_slices_Clone_int_int (x0 : List Int) : Option (List Int) := bif Nat.blt (0 + x0.length) 17592186044416 then some x0 else none
noncomputable def C119 : Con := ⟨[(.B, false, [(.sl R0)])], [(false, [(.sl R0)])], [(.sl R0)], [(.sl R0)], f_slices_Clone_int_int⟩
noncomputable abbrev X119 : Nat → Ctx := ctxOf tb [] [] []
theorem E119 : ∀ x : List R0.den, bodyRun fs X119 6 119 C119 [] [] [.bor (some 1000) R0 x] [] = f_slices_Clone_int_int x := fun x => by kernel_rfl
theorem Z119 : bodyRun fs X119 6 119 C119 [] [] [.nil (some R0)] [] = f_slices_Clone_int_int ([] : List R0.den) := by kernel_rfl
theorem B119 : ConB Try.prog 119 C119 := ConB.copy FS MIX TY (cons := []) (L := []) (ptrs := []) trivial trivial trivial rfl E119 Z119
theorem S119 : ConS Try.prog 119 C119 := B119.call rfl
/-! impl.copyFrame: function 82 -/
noncomputable def f_impl_copyFrame (x0 : Int) (x1 : List Int) (x2 : Bool) : Option (Int × List Int × Bool) :=
  (f_slices_Clone_int_int x1).bind fun y24 =>
  some (x0, y24, x2)
noncomputable def C82 : Con := ⟨[(.B, true, [(.int .i64), (.sl R0), .bool])], [(true, [(.int .i64), (.sl R0), .bool])], [(.int .i64), (.sl R0), .bool], [(.int .i64), (.sl R0), .bool], fun (p : Int × List Int × Bool) => f_impl_copyFrame p.1 p.2.1 p.2.2⟩
noncomputable abbrev K82 : Cons := [(119, C119)]
noncomputable abbrev L82 : List (Nat × Loops) := []
abbrev Q82 : List (Nat × List (Int × Nat) × Nat) := []
noncomputable abbrev X82 : Nat → Ctx := ctxOf tb K82 L82 Q82
theorem E82 : ∀ x, funRun fs X82 6 82 C82 x = C82.fn x := fun x => by kernel_rfl
theorem B82 : ConB Try.prog 82 C82 := ConB.make FS MIX TY (cons := K82) (L := L82) (ptrs := Q82) ⟨S119, trivial⟩ trivial trivial rfl rfl E82
theorem S82 : ConS Try.prog 82 C82 := B82.call rfl
/-! impl.from: function 71 -/
noncomputable def f_impl_from (x0 : Int) (x1 : Int) (x2 : Int) : Option (Bool) :=
  bif (decide (x1 ≤ x0)) then
    some (decide (x0 ≤ x2))
  else
    some false
noncomputable def C71 : Con := ⟨[(.B, false, [(.int .i64)]), (.B, false, [(.int .i64)]), (.B, false, [(.int .i64)])], [(false, [.bool])], [(.int .i64), (.int .i64), (.int .i64)], [.bool], fun (p : Int × Int × Int) => f_impl_from p.1 p.2.1 p.2.2⟩
noncomputable abbrev K71 : Cons := []
noncomputable abbrev L71 : List (Nat × Loops) := []
abbrev Q71 : List (Nat × List (Int × Nat) × Nat) := []
noncomputable abbrev X71 : Nat → Ctx := ctxOf tb K71 L71 Q71
theorem E71 : ∀ x, funRun fs X71 6 71 C71 x = C71.fn x := fun x => by kernel_rfl
theorem B71 : ConB Try.prog 71 C71 := ConB.make FS MIX TY (cons := K71) (L := L71) (ptrs := Q71) trivial trivial trivial rfl rfl E71
theorem S71 : ConS Try.prog 71 C71 := B71.call rfl
/-! impl.isWord: function 83 -/
noncomputable def f_impl_isWord (x0 : Int) : Option (Bool) :=
  (f_impl_from x0 0 65535).bind fun y25 =>
  some y25
noncomputable def C83 : Con := ⟨[(.B, false, [(.int .i64)])], [(false, [.bool])], [(.int .i64)], [.bool], fun (p : Int) => f_impl_isWord p⟩
noncomputable abbrev K83 : Cons := [(71, C71)]
noncomputable abbrev L83 : List (Nat × Loops) := []
abbrev Q83 : List (Nat × List (Int × Nat) × Nat) := []
noncomputable abbrev X83 : Nat → Ctx := ctxOf tb K83 L83 Q83
theorem E83 : ∀ x, funRun fs X83 6 83 C83 x = C83.fn x := fun x => by kernel_rfl
theorem B83 : ConB Try.prog 83 C83 := ConB.make FS MIX TY (cons := K83) (L := L83) (ptrs := Q83) ⟨S71, trivial⟩ trivial trivial rfl rfl E83
theorem S83 : ConS Try.prog 83 C83 := B83.call rfl
/-! impl.wordsOk$1: function 114 -/
noncomputable def f_impl_wordsOk_1 (x0 : Int) : Option (Bool) :=
  (f_impl_isWord x0).bind fun y26 =>
  some (!y26)
noncomputable def C114 : Con := ⟨[(.B, false, [(.int .i64)])], [(false, [.bool])], [(.int .i64)], [.bool], fun (p : Int) => f_impl_wordsOk_1 p⟩
noncomputable abbrev K114 : Cons := [(83, C83)]
noncomputable abbrev L114 : List (Nat × Loops) := []
abbrev Q114 : List (Nat × List (Int × Nat) × Nat) := []
noncomputable abbrev X114 : Nat → Ctx := ctxOf tb K114 L114 Q114
theorem E114 : ∀ x, funRun fs X114 6 114 C114 x = C114.fn x := fun x => by kernel_rfl
theorem B114 : ConB Try.prog 114 C114 := ConB.make FS MIX TY (cons := K114) (L := L114) (ptrs := Q114) ⟨S83, trivial⟩ trivial trivial rfl rfl E114
theorem S114 : ConS Try.prog 114 C114 := B114.call rfl
/-! impl.wordsOk: function 73 -/
noncomputable def f_impl_wordsOk.l0 : Nat → (List Int) → Int → Int → Int → Option ((Int) ⊕ (Int))
  | 0, _, _, _, _ => none
  | n + 1, p27, p28, p29, p30 =>
    bif (decide (p30 < p29)) then
      bif ((decide ((0 : Int) ≤ p30)) && (decide (p30 < (p27.length : Int)))) then
      (f_impl_wordsOk_1 (p27.getD p30.toNat 0)).bind fun y31 =>
      bif y31 then
        some (.inl p30)
      else
        f_impl_wordsOk.l0 n p27 p28 p29 (IntKind.wrap .i64 (p30 + (1 : Int)))
      else none
    else
      some (.inr p28)
noncomputable def f_impl_wordsOk (x0 : List Int) (x1 : Int) : Option (Bool) :=
  bif (decide ((x0.length : Int) = x1)) then
    (f_impl_wordsOk.l0 N x0 0 (x0.length : Int) 0).bind fun r32 =>
    cs r32 (fun a33 =>
      some (!(decide ((0 : Int) ≤ a33)))) (fun b34 =>
      some true)
  else
    some false
noncomputable def C73 : Con := ⟨[(.B, false, [(.sl R0)]), (.B, false, [(.int .i64)])], [(false, [.bool])], [(.sl R0), (.int .i64)], [.bool], fun (p : List Int × Int) => f_impl_wordsOk p.1 p.2⟩
noncomputable def f_impl_wordsOk.l0.c : LoopCon := ⟨1274, 4, [0, 1, 4, 7, 8], ⟨[(0, .bor none R0 []), (1, .func 114 []), (4, .int .i64 0), (7, .int .i64 0), (8, .int .i64 0)], [], 1274⟩, [(.sl R0), (.int .i64), (.int .i64), (.int .i64)], [⟨.ret, [4], ⟨[(4, .int .i64 0)], [], 1274⟩, [(.int .i64)]⟩, ⟨.exit 0, [4], ⟨[(4, .int .i64 0)], [], 1274⟩, [(.int .i64)]⟩], fun (p : List Int × Int × Int × Int) => f_impl_wordsOk.l0 N p.1 p.2.1 p.2.2.1 p.2.2.2⟩
noncomputable abbrev K73 : Cons := [(114, C114)]
noncomputable abbrev L73 : List (Nat × Loops) := [(122, [(2, f_impl_wordsOk.l0.c)])]
abbrev Q73 : List (Nat × List (Int × Nat) × Nat) := []
noncomputable abbrev X73 : Nat → Ctx := ctxOf tb K73 L73 Q73
theorem f_impl_wordsOk.l0.ok : ∀ n p, (fun (p : List Int × Int × Int × Int) => f_impl_wordsOk.l0 n p.1 p.2.1 p.2.2.1 p.2.2.2) p = iterD (roundOf fs X73 4 122 2 true f_impl_wordsOk.l0.c) n p :=
  iter_of (l := fun n => fun (p : List Int × Int × Int × Int) => f_impl_wordsOk.l0 n p.1 p.2.1 p.2.2.1 p.2.2.2) (fun _ => rfl) (fun n p => by kernel_rfl)
theorem E73 : ∀ x, funRun fs X73 6 73 C73 x = C73.fn x := fun x => by kernel_rfl
theorem B73 : ConB Try.prog 73 C73 := ConB.make FS MIX TY (cons := K73) (L := L73) (ptrs := Q73) ⟨S114, trivial⟩ trivial ⟨⟨⟨N, fun p => f_impl_wordsOk.l0.ok N p⟩, trivial⟩, trivial⟩ rfl rfl E73
theorem S73 : ConS Try.prog 73 C73 := B73.call rfl
/-! impl.FrameOk: function 75 -/
noncomputable def f_impl_FrameOk (x0 : Int) (x1 : List Int) (x2 : Bool) : Option (Bool) :=
  bif (decide (x0 = (0 : Int))) then
    some (decide ((x1.length : Int) = (0 : Int)))
  else
    bif (decide (x0 = (1 : Int))) then
      (f_impl_wordsOk x1 4).bind fun y35 =>
      some y35
    else
      bif (decide (x0 = (2 : Int))) then
        (f_impl_wordsOk x1 4).bind fun y36 =>
        some y36
      else
        some false
noncomputable def C75 : Con := ⟨[(.B, true, [(.int .i64), (.sl R0), .bool])], [(false, [.bool])], [(.int .i64), (.sl R0), .bool], [.bool], fun (p : Int × List Int × Bool) => f_impl_FrameOk p.1 p.2.1 p.2.2⟩
noncomputable abbrev K75 : Cons := [(73, C73)]
noncomputable abbrev L75 : List (Nat × Loops) := []
abbrev Q75 : List (Nat × List (Int × Nat) × Nat) := []
noncomputable abbrev X75 : Nat → Ctx := ctxOf tb K75 L75 Q75
theorem E75 : ∀ x, funRun fs X75 6 75 C75 x = C75.fn x := fun x => by kernel_rfl
theorem B75 : ConB Try.prog 75 C75 := ConB.make FS MIX TY (cons := K75) (L := L75) (ptrs := Q75) ⟨S73, trivial⟩ trivial trivial rfl rfl E75
theorem S75 : ConS Try.prog 75 C75 := B75.call rfl
/-! impl.FrameWrite: function 31 -/
noncomputable def f_impl_FrameWrite (x0 : Int) (x1 : List Int) (x2 : Bool) (x3 : Int) (x4 : Int) : Option (Int × List Int × Bool × Bool) :=
  (f_impl_copyFrame x0 x1 x2).bind fun y37 =>
  (f_impl_FrameOk y37.1 y37.2.1 y37.2.2).bind fun y38 =>
  bif (!y38) then
    some (y37.1, y37.2.1, y37.2.2, false)
  else
    bif (!(decide (y37.1 = (2 : Int)))) then
      some (y37.1, y37.2.1, y37.2.2, false)
    else
      (f_impl_from x3 0 3).bind fun y39 =>
      bif (!y39) then
        some (y37.1, y37.2.1, y37.2.2, false)
      else
        (f_impl_isWord x4).bind fun y40 =>
        bif (!y40) then
          some (y37.1, y37.2.1, y37.2.2, false)
        else
          bif ((decide ((0 : Int) ≤ x3)) && (decide (x3 < (y37.2.1.length : Int)))) then
          (some ((y37.2.1.set x3.toNat x4) : List Int)).bind fun z41 =>
          some (y37.1, z41, y37.2.2, true)
          else none
noncomputable def C31 : Con := ⟨[(.B, true, [(.int .i64), (.sl R0), .bool]), (.B, false, [(.int .i64)]), (.B, false, [(.int .i64)])], [(true, [(.int .i64), (.sl R0), .bool]), (false, [.bool])], [(.int .i64), (.sl R0), .bool, (.int .i64), (.int .i64)], [(.int .i64), (.sl R0), .bool, .bool], fun (p : Int × List Int × Bool × Int × Int) => f_impl_FrameWrite p.1 p.2.1 p.2.2.1 p.2.2.2.1 p.2.2.2.2⟩
noncomputable abbrev K31 : Cons := [(71, C71), (75, C75), (82, C82), (83, C83)]
noncomputable abbrev L31 : List (Nat × Loops) := []
abbrev Q31 : List (Nat × List (Int × Nat) × Nat) := []
noncomputable abbrev X31 : Nat → Ctx := ctxOf tb K31 L31 Q31
theorem E31 : ∀ x, funRun fs X31 6 31 C31 x = C31.fn x := fun x => by kernel_rfl
theorem B31 : ConB Try.prog 31 C31 := ConB.make FS MIX TY (cons := K31) (L := L31) (ptrs := Q31) ⟨S71, S75, S82, S83, trivial⟩ trivial trivial rfl rfl E31
theorem S31 : ConS Try.prog 31 C31 := B31.call rfl
/-! laws.eqIntS: function 29 -/
noncomputable def f_laws_eqIntS.l0 : Nat → (List Int) → (List Int) → Bool → Int → Option ((Bool) ⊕ (Bool))
  | 0, _, _, _, _ => none
  | n + 1, p42, p43, p44, p45 =>
    bif (decide (p45 < (p42.length : Int))) then
      bif ((decide ((0 : Int) ≤ p45)) && (decide (p45 < (p42.length : Int)))) then
      bif ((decide ((0 : Int) ≤ p45)) && (decide (p45 < (p43.length : Int)))) then
      bif (!(decide ((p42.getD p45.toNat 0) = (p43.getD p45.toNat 0)))) then
        some (.inl false)
      else
        f_laws_eqIntS.l0 n p42 p43 p44 (IntKind.wrap .i64 (p45 + (1 : Int)))
      else none
      else none
    else
      some (.inr p44)
noncomputable def f_laws_eqIntS (x0 : List Int) (x1 : List Int) : Option (Bool) :=
  bif (!(decide ((x0.length : Int) = (x1.length : Int)))) then
    some false
  else
    (f_laws_eqIntS.l0 N x0 x1 false 0).bind fun r46 =>
    cs r46 (fun a47 =>
      some a47) (fun b48 =>
      some true)
noncomputable def C29 : Con := ⟨[(.B, false, [(.sl R0)]), (.B, false, [(.sl R0)])], [(false, [.bool])], [(.sl R0), (.sl R0)], [.bool], fun (p : List Int × List Int) => f_laws_eqIntS p.1 p.2⟩
noncomputable def f_laws_eqIntS.l0.c : LoopCon := ⟨1000, 6, [0, 1, 4, 5], ⟨[(0, .bor none R0 []), (1, .bor none R0 []), (4, .bool false), (5, .int .i64 0)], [], 1000⟩, [(.sl R0), (.sl R0), .bool, (.int .i64)], [⟨.ret, [4], ⟨[(4, .bool false)], [], 1000⟩, [.bool]⟩, ⟨.exit 0, [4], ⟨[(4, .bool false)], [], 1000⟩, [.bool]⟩], fun (p : List Int × List Int × Bool × Int) => f_laws_eqIntS.l0 N p.1 p.2.1 p.2.2.1 p.2.2.2⟩
noncomputable abbrev K29 : Cons := []
noncomputable abbrev L29 : List (Nat × Loops) := [(29, [(4, f_laws_eqIntS.l0.c)])]
abbrev Q29 : List (Nat × List (Int × Nat) × Nat) := []
noncomputable abbrev X29 : Nat → Ctx := ctxOf tb K29 L29 Q29
theorem f_laws_eqIntS.l0.ok : ∀ n p, (fun (p : List Int × List Int × Bool × Int) => f_laws_eqIntS.l0 n p.1 p.2.1 p.2.2.1 p.2.2.2) p = iterD (roundOf fs X29 6 29 4 false f_laws_eqIntS.l0.c) n p :=
  iter_of (l := fun n => fun (p : List Int × List Int × Bool × Int) => f_laws_eqIntS.l0 n p.1 p.2.1 p.2.2.1 p.2.2.2) (fun _ => rfl) (fun n p => by kernel_rfl)
theorem E29 : ∀ x, funRun fs X29 6 29 C29 x = C29.fn x := fun x => by kernel_rfl
theorem B29 : ConB Try.prog 29 C29 := ConB.make FS MIX TY (cons := K29) (L := L29) (ptrs := Q29) trivial trivial ⟨⟨⟨N, fun p => f_laws_eqIntS.l0.ok N p⟩, trivial⟩, trivial⟩ rfl rfl E29
theorem S29 : ConS Try.prog 29 C29 := B29.call rfl
/-! laws.eqFrame: function 24 -/
noncomputable def f_laws_eqFrame (x0 : Int) (x1 : List Int) (x2 : Bool) (x3 : Int) (x4 : List Int) (x5 : Bool) : Option (Bool) :=
  bif (!(decide (x0 = x3))) then
    some false
  else
    (f_laws_eqIntS x1 x4).bind fun y49 =>
    bif (!y49) then
      some false
    else
      bif (!(x2 == x5)) then
        some false
      else
        some true
noncomputable def C24 : Con := ⟨[(.B, true, [(.int .i64), (.sl R0), .bool]), (.B, true, [(.int .i64), (.sl R0), .bool])], [(false, [.bool])], [(.int .i64), (.sl R0), .bool, (.int .i64), (.sl R0), .bool], [.bool], fun (p : Int × List Int × Bool × Int × List Int × Bool) => f_laws_eqFrame p.1 p.2.1 p.2.2.1 p.2.2.2.1 p.2.2.2.2.1 p.2.2.2.2.2⟩
noncomputable abbrev K24 : Cons := [(29, C29)]
noncomputable abbrev L24 : List (Nat × Loops) := []
abbrev Q24 : List (Nat × List (Int × Nat) × Nat) := []
noncomputable abbrev X24 : Nat → Ctx := ctxOf tb K24 L24 Q24
theorem E24 : ∀ x, funRun fs X24 6 24 C24 x = C24.fn x := fun x => by kernel_rfl
theorem B24 : ConB Try.prog 24 C24 := ConB.make FS MIX TY (cons := K24) (L := L24) (ptrs := Q24) ⟨S29, trivial⟩ trivial trivial rfl rfl E24
theorem S24 : ConS Try.prog 24 C24 := B24.call rfl
/-! laws.markIntS: function 84 -/
noncomputable def f_laws_markIntS.l0 : Nat → Int → Int → Int → (List Int) → Option (Int × Int × List Int)
  | 0, _, _, _, _ => none
  | n + 1, p50, p51, p52, p53 =>
    bif (decide (p52 < (p53.length : Int))) then
      bif ((decide ((0 : Int) ≤ p52)) && (decide (p52 < (p53.length : Int)))) then
      (some ((p53.set p52.toNat p50) : List Int)).bind fun z54 =>
      f_laws_markIntS.l0 n (IntKind.wrap .i64 (p50 + (1 : Int))) p51 (IntKind.wrap .i64 (p52 + (1 : Int))) z54
      else none
    else
      some (p50, p51, p53)
noncomputable def f_laws_markIntS (x0 : List Int) (x1 : Int) : Option (Int × List Int) :=
  (f_laws_markIntS.l0 N x1 0 0 x0).bind fun r55 =>
  some (r55.1, r55.2.2)
noncomputable def C84 : Con := ⟨[(.I, false, [(.sl R0)]), (.B, false, [(.int .i64)])], [(false, [(.int .i64)])], [(.sl R0), (.int .i64)], [(.int .i64), (.sl R0)], fun (p : List Int × Int) => f_laws_markIntS p.1 p.2⟩
noncomputable def f_laws_markIntS.l0.c : LoopCon := ⟨1000, 6, [0, 1, 4, 5], ⟨[(0, .ref 0 [] none), (1, .int .i64 0), (4, .int .i64 0), (5, .int .i64 0)], [(0, .row R0 [])], 1000⟩, [(.int .i64), (.int .i64), (.int .i64), (.sl R0)], [⟨.exit 0, [1, 4], ⟨[(1, .int .i64 0), (4, .int .i64 0)], [(0, .row R0 [])], 1000⟩, [(.int .i64), (.int .i64), (.sl R0)]⟩], fun (p : Int × Int × Int × List Int) => f_laws_markIntS.l0 N p.1 p.2.1 p.2.2.1 p.2.2.2⟩
noncomputable abbrev K84 : Cons := []
noncomputable abbrev L84 : List (Nat × Loops) := [(84, [(2, f_laws_markIntS.l0.c)])]
abbrev Q84 : List (Nat × List (Int × Nat) × Nat) := []
noncomputable abbrev X84 : Nat → Ctx := ctxOf tb K84 L84 Q84
theorem f_laws_markIntS.l0.ok : ∀ n p, (fun (p : Int × Int × Int × List Int) => f_laws_markIntS.l0 n p.1 p.2.1 p.2.2.1 p.2.2.2) p = iterD (roundOf fs X84 6 84 2 false f_laws_markIntS.l0.c) n p :=
  iter_of (l := fun n => fun (p : Int × Int × Int × List Int) => f_laws_markIntS.l0 n p.1 p.2.1 p.2.2.1 p.2.2.2) (fun _ => rfl) (fun n p => by kernel_rfl)
theorem E84 : ∀ x, funG fs X84 6 84 C84 x = C84.fn x := fun x => by kernel_rfl
theorem B84 : ConG Try.prog 84 C84 := ConG.make FS MIX TY (cons := K84) (L := L84) (ptrs := Q84) trivial trivial ⟨⟨⟨N, fun p => f_laws_markIntS.l0.ok N p⟩, trivial⟩, trivial⟩ rfl (by kernel_rfl) E84
theorem S84 : ConS Try.prog 84 C84 := B84.call (by kernel_rfl)
/-! laws.markFrame: function 32 -/
noncomputable def f_laws_markFrame (x0 : Int) (x1 : List Int) (x2 : Bool) (x3 : Int) : Option (Int × List Int) :=
  (f_laws_markIntS x1 x3).bind fun y56 =>
  (some (y56.2 : List Int)).bind fun z57 =>
  some (y56.1, z57)
noncomputable def C32 : Con := ⟨[(.I, true, [(.int .i64), (.sl R0), .bool]), (.B, false, [(.int .i64)])], [(false, [(.int .i64)])], [(.int .i64), (.sl R0), .bool, (.int .i64)], [(.int .i64), (.sl R0)], fun (p : Int × List Int × Bool × Int) => f_laws_markFrame p.1 p.2.1 p.2.2.1 p.2.2.2⟩
noncomputable abbrev K32 : Cons := [(84, C84)]
noncomputable abbrev L32 : List (Nat × Loops) := []
abbrev Q32 : List (Nat × List (Int × Nat) × Nat) := []
noncomputable abbrev X32 : Nat → Ctx := ctxOf tb K32 L32 Q32
theorem E32 : ∀ x, funG fs X32 6 32 C32 x = C32.fn x := fun x => by kernel_rfl
theorem B32 : ConG Try.prog 32 C32 := ConG.make FS MIX TY (cons := K32) (L := L32) (ptrs := Q32) ⟨S84, trivial⟩ trivial trivial rfl (by kernel_rfl) E32
theorem S32 : ConS Try.prog 32 C32 := B32.call (by kernel_rfl)
/-! laws.heldIntS: function 85 -/
noncomputable def f_laws_heldIntS.l0 : Nat → (List Int) → Int → Int → Int → Option ((Int) ⊕ (Int × Int))
  | 0, _, _, _, _ => none
  | n + 1, p58, p59, p60, p61 =>
    bif (decide (p61 < (p58.length : Int))) then
      bif ((decide ((0 : Int) ≤ p61)) && (decide (p61 < (p58.length : Int)))) then
      bif (!(decide ((p58.getD p61.toNat 0) = p59))) then
        some (.inl (-1))
      else
        f_laws_heldIntS.l0 n p58 (IntKind.wrap .i64 (p59 + (1 : Int))) p60 (IntKind.wrap .i64 (p61 + (1 : Int)))
      else none
    else
      some (.inr (p59, p60))
noncomputable def f_laws_heldIntS (x0 : List Int) (x1 : Int) : Option (Int) :=
  (f_laws_heldIntS.l0 N x0 x1 0 0).bind fun r62 =>
  cs r62 (fun a63 =>
    some a63) (fun b64 =>
    some b64.1)
noncomputable def C85 : Con := ⟨[(.B, false, [(.sl R0)]), (.B, false, [(.int .i64)])], [(false, [(.int .i64)])], [(.sl R0), (.int .i64)], [(.int .i64)], fun (p : List Int × Int) => f_laws_heldIntS p.1 p.2⟩
noncomputable def f_laws_heldIntS.l0.c : LoopCon := ⟨1000, 6, [0, 1, 4, 5], ⟨[(0, .bor none R0 []), (1, .int .i64 0), (4, .int .i64 0), (5, .int .i64 0)], [], 1000⟩, [(.sl R0), (.int .i64), (.int .i64), (.int .i64)], [⟨.ret, [4], ⟨[(4, .int .i64 0)], [], 1000⟩, [(.int .i64)]⟩, ⟨.exit 0, [1, 4], ⟨[(1, .int .i64 0), (4, .int .i64 0)], [], 1000⟩, [(.int .i64), (.int .i64)]⟩], fun (p : List Int × Int × Int × Int) => f_laws_heldIntS.l0 N p.1 p.2.1 p.2.2.1 p.2.2.2⟩
noncomputable abbrev K85 : Cons := []
noncomputable abbrev L85 : List (Nat × Loops) := [(85, [(2, f_laws_heldIntS.l0.c)])]
abbrev Q85 : List (Nat × List (Int × Nat) × Nat) := []
noncomputable abbrev X85 : Nat → Ctx := ctxOf tb K85 L85 Q85
theorem f_laws_heldIntS.l0.ok : ∀ n p, (fun (p : List Int × Int × Int × Int) => f_laws_heldIntS.l0 n p.1 p.2.1 p.2.2.1 p.2.2.2) p = iterD (roundOf fs X85 6 85 2 false f_laws_heldIntS.l0.c) n p :=
  iter_of (l := fun n => fun (p : List Int × Int × Int × Int) => f_laws_heldIntS.l0 n p.1 p.2.1 p.2.2.1 p.2.2.2) (fun _ => rfl) (fun n p => by kernel_rfl)
theorem E85 : ∀ x, funRun fs X85 6 85 C85 x = C85.fn x := fun x => by kernel_rfl
theorem B85 : ConB Try.prog 85 C85 := ConB.make FS MIX TY (cons := K85) (L := L85) (ptrs := Q85) trivial trivial ⟨⟨⟨N, fun p => f_laws_heldIntS.l0.ok N p⟩, trivial⟩, trivial⟩ rfl rfl E85
theorem S85 : ConS Try.prog 85 C85 := B85.call rfl
/-! laws.heldFrame: function 33 -/
noncomputable def f_laws_heldFrame (x0 : Int) (x1 : List Int) (x2 : Bool) (x3 : Int) : Option (Int) :=
  (f_laws_heldIntS x1 x3).bind fun y65 =>
  bif (decide (y65 < (0 : Int))) then
    some (-1)
  else
    some y65
noncomputable def C33 : Con := ⟨[(.B, true, [(.int .i64), (.sl R0), .bool]), (.B, false, [(.int .i64)])], [(false, [(.int .i64)])], [(.int .i64), (.sl R0), .bool, (.int .i64)], [(.int .i64)], fun (p : Int × List Int × Bool × Int) => f_laws_heldFrame p.1 p.2.1 p.2.2.1 p.2.2.2⟩
noncomputable abbrev K33 : Cons := [(85, C85)]
noncomputable abbrev L33 : List (Nat × Loops) := []
abbrev Q33 : List (Nat × List (Int × Nat) × Nat) := []
noncomputable abbrev X33 : Nat → Ctx := ctxOf tb K33 L33 Q33
theorem E33 : ∀ x, funRun fs X33 6 33 C33 x = C33.fn x := fun x => by kernel_rfl
theorem B33 : ConB Try.prog 33 C33 := ConB.make FS MIX TY (cons := K33) (L := L33) (ptrs := Q33) ⟨S85, trivial⟩ trivial trivial rfl rfl E33
theorem S33 : ConS Try.prog 33 C33 := B33.call rfl
/-! laws.FnExactFrameWrite: function 6 -/
noncomputable def f_laws_FnExactFrameWrite (x0 : Int) (x1 : List Int) (x2 : Bool) (x3 : Int) (x4 : Int) : Option (Bool) :=
  (f_laws_szFrame x0 x1 x2 1048576).bind fun y66 =>
  bif (decide (y66 < (0 : Int))) then
    some true
  else
    (f_laws_toFrame x0 x1 x2).bind fun y67 =>
    (f_spec_FrameWrite y67.1 y67.2.1 y67.2.2 x3 x4).bind fun y68 =>
    (f_laws_toFrame x0 x1 x2).bind fun y69 =>
    (f_impl_FrameWrite y69.1 y69.2.1 y69.2.2 x3 x4).bind fun y70 =>
    (f_laws_eqFrame y70.1 y70.2.1 y70.2.2.1 y68.1 y68.2.1 y68.2.2.1).bind fun y71 =>
    bif (!y71) then
      some false
    else
      bif (!(y70.2.2.2 == y68.2.2.2)) then
        some false
      else
        (f_laws_toFrame x0 x1 x2).bind fun y72 =>
        (f_laws_eqFrame y69.1 y69.2.1 y69.2.2 y72.1 y72.2.1 y72.2.2).bind fun y73 =>
        bif (!y73) then
          some false
        else
          (f_laws_markFrame y69.1 y69.2.1 y69.2.2 1).bind fun y74 =>
          (some (y74.2 : List Int)).bind fun z75 =>
          bif (decide (y74.1 < (0 : Int))) then
            some false
          else
            (f_laws_eqFrame y70.1 y70.2.1 y70.2.2.1 y68.1 y68.2.1 y68.2.2.1).bind fun y76 =>
            bif (!y76) then
              some false
            else
              bif (!(y70.2.2.2 == y68.2.2.2)) then
                some false
              else
                (f_laws_markFrame y70.1 y70.2.1 y70.2.2.1 1).bind fun y77 =>
                (some (y77.2 : List Int)).bind fun z78 =>
                (f_laws_heldFrame y70.1 z78 y70.2.2.1 1).bind fun y79 =>
                bif (decide (y79 < (0 : Int))) then
                  some false
                else
                  bif (!(decide (y79 = y77.1))) then
                    some false
                  else
                    (f_laws_toFrame x0 x1 x2).bind fun y80 =>
                    (f_impl_FrameWrite y80.1 y80.2.1 y80.2.2 x3 x4).bind fun y81 =>
                    (f_laws_eqFrame y81.1 y81.2.1 y81.2.2.1 y68.1 y68.2.1 y68.2.2.1).bind fun y82 =>
                    bif (!y82) then
                      some false
                    else
                      bif (!(y81.2.2.2 == y68.2.2.2)) then
                        some false
                      else
                        (f_laws_heldFrame y70.1 z78 y70.2.2.1 1).bind fun y83 =>
                        bif (decide (y83 < (0 : Int))) then
                          some false
                        else
                          bif (!(decide (y83 = y77.1))) then
                            some false
                          else
                            some true
noncomputable def C6 : Con := ⟨[(.B, true, [(.int .i64), (.sl R0), .bool]), (.B, false, [(.int .i64)]), (.B, false, [(.int .i64)])], [(false, [.bool])], [(.int .i64), (.sl R0), .bool, (.int .i64), (.int .i64)], [.bool], fun (p : Int × List Int × Bool × Int × Int) => f_laws_FnExactFrameWrite p.1 p.2.1 p.2.2.1 p.2.2.2.1 p.2.2.2.2⟩
noncomputable abbrev K6 : Cons := [(20, C20), (22, C22), (24, C24), (30, C30), (31, C31), (32, C32), (33, C33)]
noncomputable abbrev L6 : List (Nat × Loops) := []
abbrev Q6 : List (Nat × List (Int × Nat) × Nat) := []
noncomputable abbrev X6 : Nat → Ctx := ctxOf tb K6 L6 Q6
theorem E6 : ∀ x, funRun fs X6 6 6 C6 x = C6.fn x := fun x => by kernel_rfl
theorem B6 : ConB Try.prog 6 C6 := ConB.make FS MIX TY (cons := K6) (L := L6) (ptrs := Q6) ⟨S20, S22, S24, S30, S31, S32, S33, trivial⟩ trivial trivial rfl rfl E6
theorem S6 : ConS Try.prog 6 C6 := B6.call rfl
/-- What is left: the plain law. -/
def Pure : Prop := ∀ x : Tup [(.int .i64), (.sl R0), .bool, (.int .i64), (.int .i64)], WfT [(.int .i64), (.sl R0), .bool, (.int .i64), (.int .i64)] x → C6.fn x = some (true : Bool)
end
end Go.Abs
