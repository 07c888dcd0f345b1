import Derived.Test.YtbecooalhanmeaaProg
import Derived.Test.YtbecooalhanmeaaAbsC
import Derived.KernelRfl
namespace Go.Abs
open Go.Proofs
set_option linter.unusedVariables false
set_option maxRecDepth 100000
noncomputable section
abbrev N : Nat := 1152921504606846976
abbrev R0 : RT := .one (.int .i64)
noncomputable def tb : Tb := [(0, ⟨false, [], [], 0, 0⟩),
  (3, ⟨false, [(.int .i64)], [], 0, 8⟩),
  (4, ⟨false, [.bool], [], 0, 1⟩),
  (22, ⟨false, [(.sl R0)], [], 3, 24⟩),
  (24, ⟨true, [(.int .i64), (.int .i64), .bool, (.sl R0)], [(0, 3), (1, 3), (2, 4), (3, 22)], 0, 48⟩),
  (27, ⟨true, [(.int .i64), (.int .i64), .bool, (.sl R0)], [(0, 3), (1, 3), (2, 4), (3, 22)], 0, 48⟩),
  (53, ⟨true, [(.int .i64), (.int .i64), .bool, (.int .i64), (.int .i64), (.int .i64), .bool, (.sl R0)], [(0, 3), (1, 3), (2, 4), (3, 3), (4, 24)], 0, 80⟩),
  (57, ⟨true, [(.int .i64), (.int .i64), .bool, (.int .i64), (.int .i64), (.int .i64), .bool, (.sl R0)], [(0, 3), (1, 3), (2, 4), (3, 3), (4, 27)], 0, 80⟩),
  (70, ⟨false, [], [], 0, 8⟩)]
noncomputable def fsL : List (Nat × Func) := [(68, Try.f68), (15, Try.f15), (34, Try.f34), (27, Try.f27), (17, Try.f17), (36, Try.f36), (69, Try.f69), (70, Try.f70), (16, Try.f16), (35, Try.f35), (71, Try.f71), (86, Try.f86), (87, Try.f87), (72, Try.f72), (83, Try.f83), (114, Try.f114), (122, Try.f122), (113, Try.f113), (73, Try.f73), (18, Try.f18), (37, Try.f37), (29, Try.f29), (19, Try.f19), (38, Try.f38), (7, Try.f7)]
noncomputable def fs : Nat → Option Func := getF fsL
theorem MIX : Try.prog.follows .mixedOrders = true := by kernel_rfl
theorem TY : tyCheck Try.prog tb = true := by kernel_rfl
theorem CAT : catCheck tb = true := by kernel_rfl
theorem FSP : FsP Try.prog fsL := ⟨Try.func68, Try.func15, Try.func34, Try.func27, Try.func17, Try.func36, Try.func69, Try.func70, Try.func16, Try.func35, Try.func71, Try.func86, Try.func87, Try.func72, Try.func83, Try.func114, Try.func122, Try.func113, Try.func73, Try.func18, Try.func37, Try.func29, Try.func19, Try.func38, Try.func7, trivial⟩
theorem FSC : (fsL.all fun p => fnChk p.2) = true := by kernel_rfl
theorem FS : FsS Try.prog fs := FsS.of FSP FSC
/-! laws.szIntS: function 68 -/
noncomputable def f_laws_szIntS (x0 : List Int) (x1 : Int) : Option (Int) :=
  bif (decide ((IntKind.wrap .i64 (x1 - (x0.length : Int))) < (0 : Int))) then
    some (-1)
  else
    some (IntKind.wrap .i64 (x1 - (x0.length : Int)))
noncomputable def C68 : Con := ⟨[(.B, false, [(.sl R0)]), (.B, false, [(.int .i64)])], [(false, [(.int .i64)])], [(.sl R0), (.int .i64)], [(.int .i64)], fun (p : List Int × Int) => f_laws_szIntS p.1 p.2⟩
noncomputable abbrev K68 : Cons := []
noncomputable abbrev L68 : List (Nat × Loops) := []
abbrev Q68 : List (Nat × List (Int × Nat) × Nat) := []
noncomputable abbrev X68 : Nat → Ctx := ctxOf tb K68 L68 Q68
theorem E68 : ∀ x, funRun fs X68 6 68 C68 x = C68.fn x := fun x => by kernel_rfl
theorem B68 : ConB Try.prog 68 C68 := ConB.make FS MIX TY (cons := K68) (L := L68) (ptrs := Q68) trivial trivial trivial rfl rfl E68
theorem S68 : ConS Try.prog 68 C68 := B68.call rfl
/-! laws.szMsg: function 15 -/
noncomputable def f_laws_szMsg (x0 : Int) (x1 : Int) (x2 : Bool) (x3 : List Int) (x4 : Int) : Option (Int) :=
  (f_laws_szIntS x3 x4).bind fun y1 =>
  bif (decide (y1 < (0 : Int))) then
    some (-1)
  else
    some y1
noncomputable def C15 : Con := ⟨[(.B, true, [(.int .i64), (.int .i64), .bool, (.sl R0)]), (.B, false, [(.int .i64)])], [(false, [(.int .i64)])], [(.int .i64), (.int .i64), .bool, (.sl R0), (.int .i64)], [(.int .i64)], fun (p : Int × Int × Bool × List Int × Int) => f_laws_szMsg p.1 p.2.1 p.2.2.1 p.2.2.2.1 p.2.2.2.2⟩
noncomputable abbrev K15 : Cons := [(68, C68)]
noncomputable abbrev L15 : List (Nat × Loops) := []
abbrev Q15 : List (Nat × List (Int × Nat) × Nat) := []
noncomputable abbrev X15 : Nat → Ctx := ctxOf tb K15 L15 Q15
theorem E15 : ∀ x, funRun fs X15 6 15 C15 x = C15.fn x := fun x => by kernel_rfl
theorem B15 : ConB Try.prog 15 C15 := ConB.make FS MIX TY (cons := K15) (L := L15) (ptrs := Q15) ⟨S68, trivial⟩ trivial trivial rfl rfl E15
theorem S15 : ConS Try.prog 15 C15 := B15.call rfl
/-! laws.szPacket: function 34 -/
noncomputable def f_laws_szPacket (x0 : Int) (x1 : Int) (x2 : Bool) (x3 : Int) (x4 : Int) (x5 : Int) (x6 : Bool) (x7 : List Int) (x8 : Int) : Option (Int) :=
  (f_laws_szMsg x4 x5 x6 x7 x8).bind fun y2 =>
  bif (decide (y2 < (0 : Int))) then
    some (-1)
  else
    some y2
noncomputable def C34 : Con := ⟨[(.B, true, [(.int .i64), (.int .i64), .bool, (.int .i64), (.int .i64), (.int .i64), .bool, (.sl R0)]), (.B, false, [(.int .i64)])], [(false, [(.int .i64)])], [(.int .i64), (.int .i64), .bool, (.int .i64), (.int .i64), (.int .i64), .bool, (.sl R0), (.int .i64)], [(.int .i64)], fun (p : Int × Int × Bool × Int × Int × Int × Bool × List Int × Int) => f_laws_szPacket p.1 p.2.1 p.2.2.1 p.2.2.2.1 p.2.2.2.2.1 p.2.2.2.2.2.1 p.2.2.2.2.2.2.1 p.2.2.2.2.2.2.2.1 p.2.2.2.2.2.2.2.2⟩
noncomputable abbrev K34 : Cons := [(15, C15)]
noncomputable abbrev L34 : List (Nat × Loops) := []
abbrev Q34 : List (Nat × List (Int × Nat) × Nat) := []
noncomputable abbrev X34 : Nat → Ctx := ctxOf tb K34 L34 Q34
theorem E34 : ∀ x, funRun fs X34 6 34 C34 x = C34.fn x := fun x => by kernel_rfl
theorem B34 : ConB Try.prog 34 C34 := ConB.make FS MIX TY (cons := K34) (L := L34) (ptrs := Q34) ⟨S15, trivial⟩ trivial trivial rfl rfl E34
theorem S34 : ConS Try.prog 34 C34 := B34.call rfl
/-! laws.toIntS: function 27 -/
noncomputable def f_laws_toIntS.l0 : Nat → (List Int) → Int → (List Int) → Option (List Int)
  | 0, _, _, _ => none
  | n + 1, p3, p4, p5 =>
    bif (decide (p4 < (p3.length : Int))) then
      bif ((decide ((0 : Int) ≤ p4)) && (decide (p4 < (p3.length : Int)))) then
      bif ((decide ((0 : Int) ≤ p4)) && (decide (p4 < (p5.length : Int)))) then
      (some ((p5.set p4.toNat (p3.getD p4.toNat 0)) : List Int)).bind fun z6 =>
      f_laws_toIntS.l0 n p3 (IntKind.wrap .i64 (p4 + (1 : Int))) z6
      else none
      else none
    else
      some p5
noncomputable def f_laws_toIntS (x0 : List Int) : Option (List Int) :=
  bif (decide ((0 : Int) ≤ (x0.length : Int)) && Nat.ble (x0.length : Int).toNat 17592186044416) then
  (f_laws_toIntS.l0 N x0 0 (List.replicate (x0.length : Int).toNat 0)).bind fun r7 =>
  some r7
  else none
noncomputable def C27 : Con := ⟨[(.B, false, [(.sl R0)])], [(false, [(.sl R0)])], [(.sl R0)], [(.sl R0)], fun (p : List Int) => f_laws_toIntS p⟩
noncomputable def f_laws_toIntS.l0.c : LoopCon := ⟨1000, 6, [0, 2, 3, 4], ⟨[(0, .bor none R0 []), (2, .nil (some R0)), (3, .ref 1000 [] none), (4, .int .i64 0)], [(1000, .row R0 [])], 1001⟩, [(.sl R0), (.int .i64), (.sl R0)], [⟨.exit 0, [2, 3], ⟨[(2, .nil (some R0)), (3, .ref 1000 [] none)], [(1000, .row R0 [])], 1001⟩, [(.sl R0)]⟩], fun (p : List Int × Int × List Int) => f_laws_toIntS.l0 N p.1 p.2.1 p.2.2⟩
noncomputable abbrev K27 : Cons := []
noncomputable abbrev L27 : List (Nat × Loops) := [(27, [(3, f_laws_toIntS.l0.c)])]
abbrev Q27 : List (Nat × List (Int × Nat) × Nat) := []
noncomputable abbrev X27 : Nat → Ctx := ctxOf tb K27 L27 Q27
theorem f_laws_toIntS.l0.ok : ∀ n p, (fun (p : List Int × Int × List Int) => f_laws_toIntS.l0 n p.1 p.2.1 p.2.2) p = iterD (roundOf fs X27 6 27 3 false f_laws_toIntS.l0.c) n p :=
  iter_of (l := fun n => fun (p : List Int × Int × List Int) => f_laws_toIntS.l0 n p.1 p.2.1 p.2.2) (fun _ => rfl) (fun n p => by kernel_rfl)
theorem E27 : ∀ x, funRun fs X27 6 27 C27 x = C27.fn x := fun x => by kernel_rfl
theorem B27 : ConB Try.prog 27 C27 := ConB.make FS MIX TY (cons := K27) (L := L27) (ptrs := Q27) trivial trivial ⟨⟨⟨N, fun p => f_laws_toIntS.l0.ok N p⟩, trivial⟩, trivial⟩ rfl rfl E27
theorem S27 : ConS Try.prog 27 C27 := B27.call rfl
/-! laws.toMsg: function 17 -/
noncomputable def f_laws_toMsg (x0 : Int) (x1 : Int) (x2 : Bool) (x3 : List Int) : Option (Int × Int × Bool × List Int) :=
  (f_laws_toIntS x3).bind fun y8 =>
  some (x0, x1, x2, y8)
noncomputable def C17 : Con := ⟨[(.B, true, [(.int .i64), (.int .i64), .bool, (.sl R0)])], [(true, [(.int .i64), (.int .i64), .bool, (.sl R0)])], [(.int .i64), (.int .i64), .bool, (.sl R0)], [(.int .i64), (.int .i64), .bool, (.sl R0)], fun (p : Int × Int × Bool × List Int) => f_laws_toMsg p.1 p.2.1 p.2.2.1 p.2.2.2⟩
noncomputable abbrev K17 : Cons := [(27, C27)]
noncomputable abbrev L17 : List (Nat × Loops) := []
abbrev Q17 : List (Nat × List (Int × Nat) × Nat) := []
noncomputable abbrev X17 : Nat → Ctx := ctxOf tb K17 L17 Q17
theorem E17 : ∀ x, funRun fs X17 6 17 C17 x = C17.fn x := fun x => by kernel_rfl
theorem B17 : ConB Try.prog 17 C17 := ConB.make FS MIX TY (cons := K17) (L := L17) (ptrs := Q17) ⟨S27, trivial⟩ trivial trivial rfl rfl E17
theorem S17 : ConS Try.prog 17 C17 := B17.call rfl
/-! laws.toPacket: function 36 -/
noncomputable def f_laws_toPacket (x0 : Int) (x1 : Int) (x2 : Bool) (x3 : Int) (x4 : Int) (x5 : Int) (x6 : Bool) (x7 : List Int) : Option (Int × Int × Bool × Int × Int × Int × Bool × List Int) :=
  (f_laws_toMsg x4 x5 x6 x7).bind fun y9 =>
  some (x0, x1, x2, x3, y9.1, y9.2.1, y9.2.2.1, y9.2.2.2)
noncomputable def C36 : Con := ⟨[(.B, true, [(.int .i64), (.int .i64), .bool, (.int .i64), (.int .i64), (.int .i64), .bool, (.sl R0)])], [(true, [(.int .i64), (.int .i64), .bool, (.int .i64), (.int .i64), (.int .i64), .bool, (.sl R0)])], [(.int .i64), (.int .i64), .bool, (.int .i64), (.int .i64), (.int .i64), .bool, (.sl R0)], [(.int .i64), (.int .i64), .bool, (.int .i64), (.int .i64), (.int .i64), .bool, (.sl R0)], fun (p : Int × Int × Bool × Int × Int × Int × Bool × List Int) => f_laws_toPacket p.1 p.2.1 p.2.2.1 p.2.2.2.1 p.2.2.2.2.1 p.2.2.2.2.2.1 p.2.2.2.2.2.2.1 p.2.2.2.2.2.2.2⟩
noncomputable abbrev K36 : Cons := [(17, C17)]
noncomputable abbrev L36 : List (Nat × Loops) := []
abbrev Q36 : List (Nat × List (Int × Nat) × Nat) := []
noncomputable abbrev X36 : Nat → Ctx := ctxOf tb K36 L36 Q36
theorem E36 : ∀ x, funRun fs X36 6 36 C36 x = C36.fn x := fun x => by kernel_rfl
theorem B36 : ConB Try.prog 36 C36 := ConB.make FS MIX TY (cons := K36) (L := L36) (ptrs := Q36) ⟨S17, trivial⟩ trivial trivial rfl rfl E36
theorem S36 : ConS Try.prog 36 C36 := B36.call rfl
/-! spec.l1In: function 69 -/
noncomputable def f_spec_l1In (x0 : Int) (x1 : Int) (x2 : Int) : Option (Bool) :=
  bif (decide (x1 ≤ x0)) then
    some (decide (x0 ≤ x2))
  else
    some false
noncomputable def C69 : Con := ⟨[(.B, false, [(.int .i64)]), (.B, false, [(.int .i64)]), (.B, false, [(.int .i64)])], [(false, [.bool])], [(.int .i64), (.int .i64), (.int .i64)], [.bool], fun (p : Int × Int × Int) => f_spec_l1In p.1 p.2.1 p.2.2⟩
noncomputable abbrev K69 : Cons := []
noncomputable abbrev L69 : List (Nat × Loops) := []
abbrev Q69 : List (Nat × List (Int × Nat) × Nat) := []
noncomputable abbrev X69 : Nat → Ctx := ctxOf tb K69 L69 Q69
theorem E69 : ∀ x, funRun fs X69 6 69 C69 x = C69.fn x := fun x => by kernel_rfl
theorem B69 : ConB Try.prog 69 C69 := ConB.make FS MIX TY (cons := K69) (L := L69) (ptrs := Q69) trivial trivial trivial rfl rfl E69
theorem S69 : ConS Try.prog 69 C69 := B69.call rfl
/-! spec.l1Words: function 70 -/
noncomputable def f_spec_l1Words.l0 : Nat → (List Int) → Int → Bool → Int → Option ((Bool) ⊕ (List Int × Int × Bool))
  | 0, _, _, _, _ => none
  | n + 1, p10, p11, p12, p13 =>
    bif (decide (p13 < (p10.length : Int))) then
      bif ((decide ((0 : Int) ≤ p13)) && (decide (p13 < (p10.length : Int)))) then
      (f_spec_l1In (p10.getD p13.toNat 0) 0 65535).bind fun y14 =>
      bif (!y14) then
        some (.inl false)
      else
        f_spec_l1Words.l0 n p10 p11 p12 (IntKind.wrap .i64 (p13 + (1 : Int)))
      else none
    else
      some (.inr (p10, p11, p12))
noncomputable def f_spec_l1Words (x0 : List Int) (x1 : Int) : Option (Bool) :=
  (f_spec_l1Words.l0 N x0 x1 false 0).bind fun r15 =>
  cs r15 (fun a16 =>
    some a16) (fun b17 =>
    some (decide ((b17.1.length : Int) = b17.2.1)))
noncomputable def C70 : Con := ⟨[(.B, false, [(.sl R0)]), (.B, false, [(.int .i64)])], [(false, [.bool])], [(.sl R0), (.int .i64)], [.bool], fun (p : List Int × Int) => f_spec_l1Words p.1 p.2⟩
noncomputable def f_spec_l1Words.l0.c : LoopCon := ⟨1000, 6, [0, 1, 4, 5], ⟨[(0, .bor none R0 []), (1, .int .i64 0), (4, .bool false), (5, .int .i64 0)], [], 1000⟩, [(.sl R0), (.int .i64), .bool, (.int .i64)], [⟨.ret, [4], ⟨[(4, .bool false)], [], 1000⟩, [.bool]⟩, ⟨.exit 0, [0, 1, 4], ⟨[(0, .bor none R0 []), (1, .int .i64 0), (4, .bool false)], [], 1000⟩, [(.sl R0), (.int .i64), .bool]⟩], fun (p : List Int × Int × Bool × Int) => f_spec_l1Words.l0 N p.1 p.2.1 p.2.2.1 p.2.2.2⟩
noncomputable abbrev K70 : Cons := [(69, C69)]
noncomputable abbrev L70 : List (Nat × Loops) := [(70, [(2, f_spec_l1Words.l0.c)])]
abbrev Q70 : List (Nat × List (Int × Nat) × Nat) := []
noncomputable abbrev X70 : Nat → Ctx := ctxOf tb K70 L70 Q70
theorem f_spec_l1Words.l0.ok : ∀ n p, (fun (p : List Int × Int × Bool × Int) => f_spec_l1Words.l0 n p.1 p.2.1 p.2.2.1 p.2.2.2) p = iterD (roundOf fs X70 6 70 2 false f_spec_l1Words.l0.c) n p :=
  iter_of (l := fun n => fun (p : List Int × Int × Bool × Int) => f_spec_l1Words.l0 n p.1 p.2.1 p.2.2.1 p.2.2.2) (fun _ => rfl) (fun n p => by kernel_rfl)
theorem E70 : ∀ x, funRun fs X70 6 70 C70 x = C70.fn x := fun x => by kernel_rfl
theorem B70 : ConB Try.prog 70 C70 := ConB.make FS MIX TY (cons := K70) (L := L70) (ptrs := Q70) ⟨S69, trivial⟩ trivial ⟨⟨⟨N, fun p => f_spec_l1Words.l0.ok N p⟩, trivial⟩, trivial⟩ rfl rfl E70
theorem S70 : ConS Try.prog 70 C70 := B70.call rfl
/-! spec.MsgOk: function 16 -/
noncomputable def f_spec_MsgOk (x0 : Int) (x1 : Int) (x2 : Bool) (x3 : List Int) : Option (Bool) :=
  bif (decide (x0 = (3 : Int))) then
    bif (decide (x0 = (3 : Int))) then
      (f_spec_l1In x0 1 7).bind fun y18 =>
      bif y18 then
        (f_spec_l1In x1 0 5).bind fun y19 =>
        bif y19 then
          (f_spec_l1Words x3 4).bind fun y20 =>
          some y20
        else
          some false
      else
        some false
    else
      (f_spec_l1In x0 1 7).bind fun y21 =>
      bif y21 then
        (f_spec_l1In x1 0 5).bind fun y22 =>
        bif y22 then
          bif (decide (x0 = (6 : Int))) then
            (f_spec_l1Words x3 4).bind fun y23 =>
            some y23
          else
            bif (!x2) then
              (f_spec_l1Words x3 4).bind fun y24 =>
              some y24
            else
              some false
        else
          some false
      else
        some false
  else
    bif (decide (x0 = (7 : Int))) then
      bif (decide (x0 = (3 : Int))) then
        (f_spec_l1In x0 1 7).bind fun y25 =>
        bif y25 then
          (f_spec_l1In x1 0 5).bind fun y26 =>
          bif y26 then
            (f_spec_l1Words x3 4).bind fun y27 =>
            some y27
          else
            some false
        else
          some false
      else
        (f_spec_l1In x0 1 7).bind fun y28 =>
        bif y28 then
          (f_spec_l1In x1 0 5).bind fun y29 =>
          bif y29 then
            bif (decide (x0 = (6 : Int))) then
              (f_spec_l1Words x3 4).bind fun y30 =>
              some y30
            else
              bif (!x2) then
                (f_spec_l1Words x3 4).bind fun y31 =>
                some y31
              else
                some false
          else
            some false
        else
          some false
    else
      bif (decide (x0 = (3 : Int))) then
        (f_spec_l1In x0 1 7).bind fun y32 =>
        bif y32 then
          (f_spec_l1In x1 0 5).bind fun y33 =>
          bif y33 then
            (f_spec_l1Words x3 0).bind fun y34 =>
            some y34
          else
            some false
        else
          some false
      else
        (f_spec_l1In x0 1 7).bind fun y35 =>
        bif y35 then
          (f_spec_l1In x1 0 5).bind fun y36 =>
          bif y36 then
            bif (decide (x0 = (6 : Int))) then
              (f_spec_l1Words x3 0).bind fun y37 =>
              some y37
            else
              bif (!x2) then
                (f_spec_l1Words x3 0).bind fun y38 =>
                some y38
              else
                some false
          else
            some false
        else
          some false
noncomputable def C16 : Con := ⟨[(.B, true, [(.int .i64), (.int .i64), .bool, (.sl R0)])], [(false, [.bool])], [(.int .i64), (.int .i64), .bool, (.sl R0)], [.bool], fun (p : Int × Int × Bool × List Int) => f_spec_MsgOk p.1 p.2.1 p.2.2.1 p.2.2.2⟩
noncomputable abbrev K16 : Cons := [(69, C69), (70, C70)]
noncomputable abbrev L16 : List (Nat × Loops) := []
abbrev Q16 : List (Nat × List (Int × Nat) × Nat) := []
noncomputable abbrev X16 : Nat → Ctx := ctxOf tb K16 L16 Q16
theorem E16 : ∀ x, funRun fs X16 6 16 C16 x = C16.fn x := fun x => by kernel_rfl
theorem B16 : ConB Try.prog 16 C16 := ConB.make FS MIX TY (cons := K16) (L := L16) (ptrs := Q16) ⟨S69, S70, trivial⟩ trivial trivial rfl rfl E16
theorem S16 : ConS Try.prog 16 C16 := B16.call rfl
/-! spec.PacketOk: function 35 -/
noncomputable def f_spec_PacketOk (x0 : Int) (x1 : Int) (x2 : Bool) (x3 : Int) (x4 : Int) (x5 : Int) (x6 : Bool) (x7 : List Int) (x8 : Int) : Option (Bool) :=
  (f_spec_l1In x8 1 4).bind fun y39 =>
  bif (!y39) then
    some false
  else
    (f_spec_l1In x0 0 (IntKind.wrap .i64 (x8 - (1 : Int)))).bind fun y40 =>
    bif (!y40) then
      some false
    else
      (f_spec_l1In x1 0 (IntKind.wrap .i64 (x8 - (1 : Int)))).bind fun y41 =>
      bif (!y41) then
        some false
      else
        (f_spec_l1In x3 0 100000).bind fun y42 =>
        bif (!y42) then
          some false
        else
          bif x2 then
            bif (decide (x4 = (0 : Int))) then
              bif (decide (x5 = (0 : Int))) then
                bif (!x6) then
                  some (decide ((x7.length : Int) = (0 : Int)))
                else
                  some false
              else
                some false
            else
              some false
          else
            (f_spec_MsgOk x4 x5 x6 x7).bind fun y43 =>
            some y43
noncomputable def C35 : Con := ⟨[(.B, true, [(.int .i64), (.int .i64), .bool, (.int .i64), (.int .i64), (.int .i64), .bool, (.sl R0)]), (.B, false, [(.int .i64)])], [(false, [.bool])], [(.int .i64), (.int .i64), .bool, (.int .i64), (.int .i64), (.int .i64), .bool, (.sl R0), (.int .i64)], [.bool], fun (p : Int × Int × Bool × Int × Int × Int × Bool × List Int × Int) => f_spec_PacketOk p.1 p.2.1 p.2.2.1 p.2.2.2.1 p.2.2.2.2.1 p.2.2.2.2.2.1 p.2.2.2.2.2.2.1 p.2.2.2.2.2.2.2.1 p.2.2.2.2.2.2.2.2⟩
noncomputable abbrev K35 : Cons := [(16, C16), (69, C69)]
noncomputable abbrev L35 : List (Nat × Loops) := []
abbrev Q35 : List (Nat × List (Int × Nat) × Nat) := []
noncomputable abbrev X35 : Nat → Ctx := ctxOf tb K35 L35 Q35
theorem E35 : ∀ x, funRun fs X35 6 35 C35 x = C35.fn x := fun x => by kernel_rfl
theorem B35 : ConB Try.prog 35 C35 := ConB.make FS MIX TY (cons := K35) (L := L35) (ptrs := Q35) ⟨S16, S69, trivial⟩ trivial trivial rfl rfl E35
theorem S35 : ConS Try.prog 35 C35 := B35.call rfl
/-! impl.from: function 71 -/
noncomputable def f_impl_from (x0 : Int) (x1 : Int) (x2 : Int) : Option (Bool) :=
  bif (decide (x1 ≤ x0)) then
    some (decide (x0 ≤ x2))
  else
    some false
noncomputable def C71 : Con := ⟨[(.B, false, [(.int .i64)]), (.B, false, [(.int .i64)]), (.B, false, [(.int .i64)])], [(false, [.bool])], [(.int .i64), (.int .i64), (.int .i64)], [.bool], fun (p : Int × Int × Int) => f_impl_from p.1 p.2.1 p.2.2⟩
noncomputable abbrev K71 : Cons := []
noncomputable abbrev L71 : List (Nat × Loops) := []
abbrev Q71 : List (Nat × List (Int × Nat) × Nat) := []
noncomputable abbrev X71 : Nat → Ctx := ctxOf tb K71 L71 Q71
theorem E71 : ∀ x, funRun fs X71 6 71 C71 x = C71.fn x := fun x => by kernel_rfl
theorem B71 : ConB Try.prog 71 C71 := ConB.make FS MIX TY (cons := K71) (L := L71) (ptrs := Q71) trivial trivial trivial rfl rfl E71
theorem S71 : ConS Try.prog 71 C71 := B71.call rfl
/-! impl.isOf: function 86 -/
noncomputable def f_impl_isOf (x0 : Int) (x1 : Int) : Option (Bool) :=
  (f_impl_from x1 1 4).bind fun y44 =>
  bif y44 then
    (f_impl_from x0 0 (IntKind.wrap .i64 (x1 - (1 : Int)))).bind fun y45 =>
    some y45
  else
    some false
noncomputable def C86 : Con := ⟨[(.B, false, [(.int .i64)]), (.B, false, [(.int .i64)])], [(false, [.bool])], [(.int .i64), (.int .i64)], [.bool], fun (p : Int × Int) => f_impl_isOf p.1 p.2⟩
noncomputable abbrev K86 : Cons := [(71, C71)]
noncomputable abbrev L86 : List (Nat × Loops) := []
abbrev Q86 : List (Nat × List (Int × Nat) × Nat) := []
noncomputable abbrev X86 : Nat → Ctx := ctxOf tb K86 L86 Q86
theorem E86 : ∀ x, funRun fs X86 6 86 C86 x = C86.fn x := fun x => by kernel_rfl
theorem B86 : ConB Try.prog 86 C86 := ConB.make FS MIX TY (cons := K86) (L := L86) (ptrs := Q86) ⟨S71, trivial⟩ trivial trivial rfl rfl E86
theorem S86 : ConS Try.prog 86 C86 := B86.call rfl
/-! impl.isSeq: function 87 -/
noncomputable def f_impl_isSeq (x0 : Int) : Option (Bool) :=
  (f_impl_from x0 0 100000).bind fun y46 =>
  some y46
noncomputable def C87 : Con := ⟨[(.B, false, [(.int .i64)])], [(false, [.bool])], [(.int .i64)], [.bool], fun (p : Int) => f_impl_isSeq p⟩
noncomputable abbrev K87 : Cons := [(71, C71)]
noncomputable abbrev L87 : List (Nat × Loops) := []
abbrev Q87 : List (Nat × List (Int × Nat) × Nat) := []
noncomputable abbrev X87 : Nat → Ctx := ctxOf tb K87 L87 Q87
theorem E87 : ∀ x, funRun fs X87 6 87 C87 x = C87.fn x := fun x => by kernel_rfl
theorem B87 : ConB Try.prog 87 C87 := ConB.make FS MIX TY (cons := K87) (L := L87) (ptrs := Q87) ⟨S71, trivial⟩ trivial trivial rfl rfl E87
theorem S87 : ConS Try.prog 87 C87 := B87.call rfl
/-! impl.isPage: function 72 -/
noncomputable def f_impl_isPage (x0 : Int) : Option (Bool) :=
  (f_impl_from x0 0 5).bind fun y47 =>
  some y47
noncomputable def C72 : Con := ⟨[(.B, false, [(.int .i64)])], [(false, [.bool])], [(.int .i64)], [.bool], fun (p : Int) => f_impl_isPage p⟩
noncomputable abbrev K72 : Cons := [(71, C71)]
noncomputable abbrev L72 : List (Nat × Loops) := []
abbrev Q72 : List (Nat × List (Int × Nat) × Nat) := []
noncomputable abbrev X72 : Nat → Ctx := ctxOf tb K72 L72 Q72
theorem E72 : ∀ x, funRun fs X72 6 72 C72 x = C72.fn x := fun x => by kernel_rfl
theorem B72 : ConB Try.prog 72 C72 := ConB.make FS MIX TY (cons := K72) (L := L72) (ptrs := Q72) ⟨S71, trivial⟩ trivial trivial rfl rfl E72
theorem S72 : ConS Try.prog 72 C72 := B72.call rfl
/-! impl.isWord: function 83 -/
noncomputable def f_impl_isWord (x0 : Int) : Option (Bool) :=
  (f_impl_from x0 0 65535).bind fun y48 =>
  some y48
noncomputable def C83 : Con := ⟨[(.B, false, [(.int .i64)])], [(false, [.bool])], [(.int .i64)], [.bool], fun (p : Int) => f_impl_isWord p⟩
noncomputable abbrev K83 : Cons := [(71, C71)]
noncomputable abbrev L83 : List (Nat × Loops) := []
abbrev Q83 : List (Nat × List (Int × Nat) × Nat) := []
noncomputable abbrev X83 : Nat → Ctx := ctxOf tb K83 L83 Q83
theorem E83 : ∀ x, funRun fs X83 6 83 C83 x = C83.fn x := fun x => by kernel_rfl
theorem B83 : ConB Try.prog 83 C83 := ConB.make FS MIX TY (cons := K83) (L := L83) (ptrs := Q83) ⟨S71, trivial⟩ trivial trivial rfl rfl E83
theorem S83 : ConS Try.prog 83 C83 := B83.call rfl
/-! impl.wordsOk$1: function 114 -/
noncomputable def f_impl_wordsOk_1 (x0 : Int) : Option (Bool) :=
  (f_impl_isWord x0).bind fun y49 =>
  some (!y49)
noncomputable def C114 : Con := ⟨[(.B, false, [(.int .i64)])], [(false, [.bool])], [(.int .i64)], [.bool], fun (p : Int) => f_impl_wordsOk_1 p⟩
noncomputable abbrev K114 : Cons := [(83, C83)]
noncomputable abbrev L114 : List (Nat × Loops) := []
abbrev Q114 : List (Nat × List (Int × Nat) × Nat) := []
noncomputable abbrev X114 : Nat → Ctx := ctxOf tb K114 L114 Q114
theorem E114 : ∀ x, funRun fs X114 6 114 C114 x = C114.fn x := fun x => by kernel_rfl
theorem B114 : ConB Try.prog 114 C114 := ConB.make FS MIX TY (cons := K114) (L := L114) (ptrs := Q114) ⟨S83, trivial⟩ trivial trivial rfl rfl E114
theorem S114 : ConS Try.prog 114 C114 := B114.call rfl
/-! impl.wordsOk: function 73 -/
noncomputable def f_impl_wordsOk.l0 : Nat → (List Int) → Int → Int → Int → Option ((Int) ⊕ (Int))
  | 0, _, _, _, _ => none
  | n + 1, p50, p51, p52, p53 =>
    bif (decide (p53 < p52)) then
      bif ((decide ((0 : Int) ≤ p53)) && (decide (p53 < (p50.length : Int)))) then
      (f_impl_wordsOk_1 (p50.getD p53.toNat 0)).bind fun y54 =>
      bif y54 then
        some (.inl p53)
      else
        f_impl_wordsOk.l0 n p50 p51 p52 (IntKind.wrap .i64 (p53 + (1 : Int)))
      else none
    else
      some (.inr p51)
noncomputable def f_impl_wordsOk (x0 : List Int) (x1 : Int) : Option (Bool) :=
  bif (decide ((x0.length : Int) = x1)) then
    (f_impl_wordsOk.l0 N x0 0 (x0.length : Int) 0).bind fun r55 =>
    cs r55 (fun a56 =>
      some (!(decide ((0 : Int) ≤ a56)))) (fun b57 =>
      some true)
  else
    some false
noncomputable def C73 : Con := ⟨[(.B, false, [(.sl R0)]), (.B, false, [(.int .i64)])], [(false, [.bool])], [(.sl R0), (.int .i64)], [.bool], fun (p : List Int × Int) => f_impl_wordsOk p.1 p.2⟩
noncomputable def f_impl_wordsOk.l0.c : LoopCon := ⟨1274, 4, [0, 1, 4, 7, 8], ⟨[(0, .bor none R0 []), (1, .func 114 []), (4, .int .i64 0), (7, .int .i64 0), (8, .int .i64 0)], [], 1274⟩, [(.sl R0), (.int .i64), (.int .i64), (.int .i64)], [⟨.ret, [4], ⟨[(4, .int .i64 0)], [], 1274⟩, [(.int .i64)]⟩, ⟨.exit 0, [4], ⟨[(4, .int .i64 0)], [], 1274⟩, [(.int .i64)]⟩], fun (p : List Int × Int × Int × Int) => f_impl_wordsOk.l0 N p.1 p.2.1 p.2.2.1 p.2.2.2⟩
noncomputable abbrev K73 : Cons := [(114, C114)]
noncomputable abbrev L73 : List (Nat × Loops) := [(122, [(2, f_impl_wordsOk.l0.c)])]
abbrev Q73 : List (Nat × List (Int × Nat) × Nat) := []
noncomputable abbrev X73 : Nat → Ctx := ctxOf tb K73 L73 Q73
theorem f_impl_wordsOk.l0.ok : ∀ n p, (fun (p : List Int × Int × Int × Int) => f_impl_wordsOk.l0 n p.1 p.2.1 p.2.2.1 p.2.2.2) p = iterD (roundOf fs X73 4 122 2 true f_impl_wordsOk.l0.c) n p :=
  iter_of (l := fun n => fun (p : List Int × Int × Int × Int) => f_impl_wordsOk.l0 n p.1 p.2.1 p.2.2.1 p.2.2.2) (fun _ => rfl) (fun n p => by kernel_rfl)
theorem E73 : ∀ x, funRun fs X73 6 73 C73 x = C73.fn x := fun x => by kernel_rfl
theorem B73 : ConB Try.prog 73 C73 := ConB.make FS MIX TY (cons := K73) (L := L73) (ptrs := Q73) ⟨S114, trivial⟩ trivial ⟨⟨⟨N, fun p => f_impl_wordsOk.l0.ok N p⟩, trivial⟩, trivial⟩ rfl rfl E73
theorem S73 : ConS Try.prog 73 C73 := B73.call rfl
/-! impl.MsgOk: function 18 -/
noncomputable def f_impl_MsgOk (x0 : Int) (x1 : Int) (x2 : Bool) (x3 : List Int) : Option (Bool) :=
  (f_impl_from x0 1 7).bind fun y58 =>
  bif (!y58) then
    some false
  else
    (f_impl_isPage x1).bind fun y59 =>
    bif (!y59) then
      some false
    else
      bif x2 then
        bif (!(decide (x0 = (3 : Int)))) then
          bif (!(decide (x0 = (6 : Int)))) then
            some false
          else
            bif (decide (x0 = (3 : Int))) then
              (f_impl_wordsOk x3 4).bind fun y60 =>
              some y60
            else
              bif (decide (x0 = (7 : Int))) then
                (f_impl_wordsOk x3 4).bind fun y61 =>
                some y61
              else
                some (decide ((x3.length : Int) = (0 : Int)))
        else
          bif (decide (x0 = (3 : Int))) then
            (f_impl_wordsOk x3 4).bind fun y62 =>
            some y62
          else
            bif (decide (x0 = (7 : Int))) then
              (f_impl_wordsOk x3 4).bind fun y63 =>
              some y63
            else
              some (decide ((x3.length : Int) = (0 : Int)))
      else
        bif (decide (x0 = (3 : Int))) then
          (f_impl_wordsOk x3 4).bind fun y64 =>
          some y64
        else
          bif (decide (x0 = (7 : Int))) then
            (f_impl_wordsOk x3 4).bind fun y65 =>
            some y65
          else
            some (decide ((x3.length : Int) = (0 : Int)))
noncomputable def C18 : Con := ⟨[(.B, true, [(.int .i64), (.int .i64), .bool, (.sl R0)])], [(false, [.bool])], [(.int .i64), (.int .i64), .bool, (.sl R0)], [.bool], fun (p : Int × Int × Bool × List Int) => f_impl_MsgOk p.1 p.2.1 p.2.2.1 p.2.2.2⟩
noncomputable abbrev K18 : Cons := [(71, C71), (72, C72), (73, C73)]
noncomputable abbrev L18 : List (Nat × Loops) := []
abbrev Q18 : List (Nat × List (Int × Nat) × Nat) := []
noncomputable abbrev X18 : Nat → Ctx := ctxOf tb K18 L18 Q18
theorem E18 : ∀ x, funRun fs X18 6 18 C18 x = C18.fn x := fun x => by kernel_rfl
theorem B18 : ConB Try.prog 18 C18 := ConB.make FS MIX TY (cons := K18) (L := L18) (ptrs := Q18) ⟨S71, S72, S73, trivial⟩ trivial trivial rfl rfl E18
theorem S18 : ConS Try.prog 18 C18 := B18.call rfl
/-! impl.PacketOk: function 37 -/
noncomputable def f_impl_PacketOk (x0 : Int) (x1 : Int) (x2 : Bool) (x3 : Int) (x4 : Int) (x5 : Int) (x6 : Bool) (x7 : List Int) (x8 : Int) : Option (Bool) :=
  (f_impl_isOf x0 x8).bind fun y66 =>
  bif (!y66) then
    some false
  else
    (f_impl_isOf x1 x8).bind fun y67 =>
    bif (!y67) then
      some false
    else
      (f_impl_isSeq x3).bind fun y68 =>
      bif (!y68) then
        some false
      else
        bif x2 then
          bif (decide (x4 = (0 : Int))) then
            bif (decide (x5 = (0 : Int))) then
              bif (!x6) then
                some (decide ((x7.length : Int) = (0 : Int)))
              else
                some false
            else
              some false
          else
            some false
        else
          (f_impl_MsgOk x4 x5 x6 x7).bind fun y69 =>
          some y69
noncomputable def C37 : Con := ⟨[(.B, true, [(.int .i64), (.int .i64), .bool, (.int .i64), (.int .i64), (.int .i64), .bool, (.sl R0)]), (.B, false, [(.int .i64)])], [(false, [.bool])], [(.int .i64), (.int .i64), .bool, (.int .i64), (.int .i64), (.int .i64), .bool, (.sl R0), (.int .i64)], [.bool], fun (p : Int × Int × Bool × Int × Int × Int × Bool × List Int × Int) => f_impl_PacketOk p.1 p.2.1 p.2.2.1 p.2.2.2.1 p.2.2.2.2.1 p.2.2.2.2.2.1 p.2.2.2.2.2.2.1 p.2.2.2.2.2.2.2.1 p.2.2.2.2.2.2.2.2⟩
noncomputable abbrev K37 : Cons := [(18, C18), (86, C86), (87, C87)]
noncomputable abbrev L37 : List (Nat × Loops) := []
abbrev Q37 : List (Nat × List (Int × Nat) × Nat) := []
noncomputable abbrev X37 : Nat → Ctx := ctxOf tb K37 L37 Q37
theorem E37 : ∀ x, funRun fs X37 6 37 C37 x = C37.fn x := fun x => by kernel_rfl
theorem B37 : ConB Try.prog 37 C37 := ConB.make FS MIX TY (cons := K37) (L := L37) (ptrs := Q37) ⟨S18, S86, S87, trivial⟩ trivial trivial rfl rfl E37
theorem S37 : ConS Try.prog 37 C37 := B37.call rfl
/-! laws.eqIntS: function 29 -/
noncomputable def f_laws_eqIntS.l0 : Nat → (List Int) → (List Int) → Bool → Int → Option ((Bool) ⊕ (Bool))
  | 0, _, _, _, _ => none
  | n + 1, p70, p71, p72, p73 =>
    bif (decide (p73 < (p70.length : Int))) then
      bif ((decide ((0 : Int) ≤ p73)) && (decide (p73 < (p70.length : Int)))) then
      bif ((decide ((0 : Int) ≤ p73)) && (decide (p73 < (p71.length : Int)))) then
      bif (!(decide ((p70.getD p73.toNat 0) = (p71.getD p73.toNat 0)))) then
        some (.inl false)
      else
        f_laws_eqIntS.l0 n p70 p71 p72 (IntKind.wrap .i64 (p73 + (1 : Int)))
      else none
      else none
    else
      some (.inr p72)
noncomputable def f_laws_eqIntS (x0 : List Int) (x1 : List Int) : Option (Bool) :=
  bif (!(decide ((x0.length : Int) = (x1.length : Int)))) then
    some false
  else
    (f_laws_eqIntS.l0 N x0 x1 false 0).bind fun r74 =>
    cs r74 (fun a75 =>
      some a75) (fun b76 =>
      some true)
noncomputable def C29 : Con := ⟨[(.B, false, [(.sl R0)]), (.B, false, [(.sl R0)])], [(false, [.bool])], [(.sl R0), (.sl R0)], [.bool], fun (p : List Int × List Int) => f_laws_eqIntS p.1 p.2⟩
noncomputable def f_laws_eqIntS.l0.c : LoopCon := ⟨1000, 6, [0, 1, 4, 5], ⟨[(0, .bor none R0 []), (1, .bor none R0 []), (4, .bool false), (5, .int .i64 0)], [], 1000⟩, [(.sl R0), (.sl R0), .bool, (.int .i64)], [⟨.ret, [4], ⟨[(4, .bool false)], [], 1000⟩, [.bool]⟩, ⟨.exit 0, [4], ⟨[(4, .bool false)], [], 1000⟩, [.bool]⟩], fun (p : List Int × List Int × Bool × Int) => f_laws_eqIntS.l0 N p.1 p.2.1 p.2.2.1 p.2.2.2⟩
noncomputable abbrev K29 : Cons := []
noncomputable abbrev L29 : List (Nat × Loops) := [(29, [(4, f_laws_eqIntS.l0.c)])]
abbrev Q29 : List (Nat × List (Int × Nat) × Nat) := []
noncomputable abbrev X29 : Nat → Ctx := ctxOf tb K29 L29 Q29
theorem f_laws_eqIntS.l0.ok : ∀ n p, (fun (p : List Int × List Int × Bool × Int) => f_laws_eqIntS.l0 n p.1 p.2.1 p.2.2.1 p.2.2.2) p = iterD (roundOf fs X29 6 29 4 false f_laws_eqIntS.l0.c) n p :=
  iter_of (l := fun n => fun (p : List Int × List Int × Bool × Int) => f_laws_eqIntS.l0 n p.1 p.2.1 p.2.2.1 p.2.2.2) (fun _ => rfl) (fun n p => by kernel_rfl)
theorem E29 : ∀ x, funRun fs X29 6 29 C29 x = C29.fn x := fun x => by kernel_rfl
theorem B29 : ConB Try.prog 29 C29 := ConB.make FS MIX TY (cons := K29) (L := L29) (ptrs := Q29) trivial trivial ⟨⟨⟨N, fun p => f_laws_eqIntS.l0.ok N p⟩, trivial⟩, trivial⟩ rfl rfl E29
theorem S29 : ConS Try.prog 29 C29 := B29.call rfl
/-! laws.eqMsg: function 19 -/
noncomputable def f_laws_eqMsg (x0 : Int) (x1 : Int) (x2 : Bool) (x3 : List Int) (x4 : Int) (x5 : Int) (x6 : Bool) (x7 : List Int) : Option (Bool) :=
  bif (!(decide (x0 = x4))) then
    some false
  else
    bif (!(decide (x1 = x5))) then
      some false
    else
      bif (!(x2 == x6)) then
        some false
      else
        (f_laws_eqIntS x3 x7).bind fun y77 =>
        bif (!y77) then
          some false
        else
          some true
noncomputable def C19 : Con := ⟨[(.B, true, [(.int .i64), (.int .i64), .bool, (.sl R0)]), (.B, true, [(.int .i64), (.int .i64), .bool, (.sl R0)])], [(false, [.bool])], [(.int .i64), (.int .i64), .bool, (.sl R0), (.int .i64), (.int .i64), .bool, (.sl R0)], [.bool], fun (p : Int × Int × Bool × List Int × Int × Int × Bool × List Int) => f_laws_eqMsg p.1 p.2.1 p.2.2.1 p.2.2.2.1 p.2.2.2.2.1 p.2.2.2.2.2.1 p.2.2.2.2.2.2.1 p.2.2.2.2.2.2.2⟩
noncomputable abbrev K19 : Cons := [(29, C29)]
noncomputable abbrev L19 : List (Nat × Loops) := []
abbrev Q19 : List (Nat × List (Int × Nat) × Nat) := []
noncomputable abbrev X19 : Nat → Ctx := ctxOf tb K19 L19 Q19
theorem E19 : ∀ x, funRun fs X19 6 19 C19 x = C19.fn x := fun x => by kernel_rfl
theorem B19 : ConB Try.prog 19 C19 := ConB.make FS MIX TY (cons := K19) (L := L19) (ptrs := Q19) ⟨S29, trivial⟩ trivial trivial rfl rfl E19
theorem S19 : ConS Try.prog 19 C19 := B19.call rfl
/-! laws.eqPacket: function 38 -/
noncomputable def f_laws_eqPacket (x0 : Int) (x1 : Int) (x2 : Bool) (x3 : Int) (x4 : Int) (x5 : Int) (x6 : Bool) (x7 : List Int) (x8 : Int) (x9 : Int) (x10 : Bool) (x11 : Int) (x12 : Int) (x13 : Int) (x14 : Bool) (x15 : List Int) : Option (Bool) :=
  bif (!(decide (x0 = x8))) then
    some false
  else
    bif (!(decide (x1 = x9))) then
      some false
    else
      bif (!(x2 == x10)) then
        some false
      else
        bif (!(decide (x3 = x11))) then
          some false
        else
          (f_laws_eqMsg x4 x5 x6 x7 x12 x13 x14 x15).bind fun y78 =>
          bif (!y78) then
            some false
          else
            some true
noncomputable def C38 : Con := ⟨[(.B, true, [(.int .i64), (.int .i64), .bool, (.int .i64), (.int .i64), (.int .i64), .bool, (.sl R0)]), (.B, true, [(.int .i64), (.int .i64), .bool, (.int .i64), (.int .i64), (.int .i64), .bool, (.sl R0)])], [(false, [.bool])], [(.int .i64), (.int .i64), .bool, (.int .i64), (.int .i64), (.int .i64), .bool, (.sl R0), (.int .i64), (.int .i64), .bool, (.int .i64), (.int .i64), (.int .i64), .bool, (.sl R0)], [.bool], fun (p : Int × Int × Bool × Int × Int × Int × Bool × List Int × Int × Int × Bool × Int × Int × Int × Bool × List Int) => f_laws_eqPacket p.1 p.2.1 p.2.2.1 p.2.2.2.1 p.2.2.2.2.1 p.2.2.2.2.2.1 p.2.2.2.2.2.2.1 p.2.2.2.2.2.2.2.1 p.2.2.2.2.2.2.2.2.1 p.2.2.2.2.2.2.2.2.2.1 p.2.2.2.2.2.2.2.2.2.2.1 p.2.2.2.2.2.2.2.2.2.2.2.1 p.2.2.2.2.2.2.2.2.2.2.2.2.1 p.2.2.2.2.2.2.2.2.2.2.2.2.2.1 p.2.2.2.2.2.2.2.2.2.2.2.2.2.2.1 p.2.2.2.2.2.2.2.2.2.2.2.2.2.2.2⟩
noncomputable abbrev K38 : Cons := [(19, C19)]
noncomputable abbrev L38 : List (Nat × Loops) := []
abbrev Q38 : List (Nat × List (Int × Nat) × Nat) := []
noncomputable abbrev X38 : Nat → Ctx := ctxOf tb K38 L38 Q38
theorem E38 : ∀ x, funRun fs X38 6 38 C38 x = C38.fn x := fun x => by kernel_rfl
theorem B38 : ConB Try.prog 38 C38 := ConB.make FS MIX TY (cons := K38) (L := L38) (ptrs := Q38) ⟨S19, trivial⟩ trivial trivial rfl rfl E38
theorem S38 : ConS Try.prog 38 C38 := B38.call rfl
/-! laws.FnExactPacketOk: function 7 -/
noncomputable def f_laws_FnExactPacketOk (x0 : Int) (x1 : Int) (x2 : Bool) (x3 : Int) (x4 : Int) (x5 : Int) (x6 : Bool) (x7 : List Int) (x8 : Int) : Option (Bool) :=
  (f_laws_szPacket x0 x1 x2 x3 x4 x5 x6 x7 1048576).bind fun y79 =>
  bif (decide (y79 < (0 : Int))) then
    some true
  else
    (f_laws_toPacket x0 x1 x2 x3 x4 x5 x6 x7).bind fun y80 =>
    (f_spec_PacketOk y80.1 y80.2.1 y80.2.2.1 y80.2.2.2.1 y80.2.2.2.2.1 y80.2.2.2.2.2.1 y80.2.2.2.2.2.2.1 y80.2.2.2.2.2.2.2 x8).bind fun y81 =>
    (f_laws_toPacket x0 x1 x2 x3 x4 x5 x6 x7).bind fun y82 =>
    (f_impl_PacketOk y82.1 y82.2.1 y82.2.2.1 y82.2.2.2.1 y82.2.2.2.2.1 y82.2.2.2.2.2.1 y82.2.2.2.2.2.2.1 y82.2.2.2.2.2.2.2 x8).bind fun y83 =>
    bif (!(y83 == y81)) then
      some false
    else
      (f_laws_toPacket x0 x1 x2 x3 x4 x5 x6 x7).bind fun y84 =>
      (f_laws_eqPacket y82.1 y82.2.1 y82.2.2.1 y82.2.2.2.1 y82.2.2.2.2.1 y82.2.2.2.2.2.1 y82.2.2.2.2.2.2.1 y82.2.2.2.2.2.2.2 y84.1 y84.2.1 y84.2.2.1 y84.2.2.2.1 y84.2.2.2.2.1 y84.2.2.2.2.2.1 y84.2.2.2.2.2.2.1 y84.2.2.2.2.2.2.2).bind fun y85 =>
      bif (!y85) then
        some false
      else
        some true
noncomputable def C7 : Con := ⟨[(.B, true, [(.int .i64), (.int .i64), .bool, (.int .i64), (.int .i64), (.int .i64), .bool, (.sl R0)]), (.B, false, [(.int .i64)])], [(false, [.bool])], [(.int .i64), (.int .i64), .bool, (.int .i64), (.int .i64), (.int .i64), .bool, (.sl R0), (.int .i64)], [.bool], fun (p : Int × Int × Bool × Int × Int × Int × Bool × List Int × Int) => f_laws_FnExactPacketOk p.1 p.2.1 p.2.2.1 p.2.2.2.1 p.2.2.2.2.1 p.2.2.2.2.2.1 p.2.2.2.2.2.2.1 p.2.2.2.2.2.2.2.1 p.2.2.2.2.2.2.2.2⟩
noncomputable abbrev K7 : Cons := [(34, C34), (35, C35), (36, C36), (37, C37), (38, C38)]
noncomputable abbrev L7 : List (Nat × Loops) := []
abbrev Q7 : List (Nat × List (Int × Nat) × Nat) := []
noncomputable abbrev X7 : Nat → Ctx := ctxOf tb K7 L7 Q7
theorem E7 : ∀ x, funRun fs X7 6 7 C7 x = C7.fn x := fun x => by kernel_rfl
theorem B7 : ConB Try.prog 7 C7 := ConB.make FS MIX TY (cons := K7) (L := L7) (ptrs := Q7) ⟨S34, S35, S36, S37, S38, trivial⟩ trivial trivial rfl rfl E7
theorem S7 : ConS Try.prog 7 C7 := B7.call rfl
/-- What is left: the plain law. -/
def Pure : Prop := ∀ x : Tup [(.int .i64), (.int .i64), .bool, (.int .i64), (.int .i64), (.int .i64), .bool, (.sl R0), (.int .i64)], WfT [(.int .i64), (.int .i64), .bool, (.int .i64), (.int .i64), (.int .i64), .bool, (.sl R0), (.int .i64)] x → C7.fn x = some (true : Bool)
end
end Go.Abs
