import Derived.Test.YtgifligfbjnmfaaProg
import Derived.Test.YtgifligfbjnmfaaAbsD
import Derived.KernelRfl
namespace Go.Abs
open Go.Proofs
set_option linter.unusedVariables false
set_option maxRecDepth 100000
noncomputable section
abbrev N : Nat := 1152921504606846976
abbrev R0 : RT := .one (.int .i64)
noncomputable def tb : Tb := [(0, ⟨false, [], [], 0, 0⟩),
  (3, ⟨false, [(.int .i64)], [], 0, 8⟩),
  (4, ⟨false, [.bool], [], 0, 1⟩),
  (22, ⟨false, [(.sl R0)], [], 3, 24⟩),
  (24, ⟨true, [(.int .i64), (.int .i64), .bool, (.sl R0)], [(0, 3), (1, 3), (2, 4), (3, 22)], 0, 48⟩),
  (28, ⟨true, [(.int .i64), (.int .i64), .bool, (.sl R0)], [(0, 3), (1, 3), (2, 4), (3, 22)], 0, 48⟩),
  (46, ⟨true, [(.int .i64), (.sl R0), .bool], [(0, 3), (1, 22), (2, 4)], 0, 40⟩),
  (48, ⟨true, [(.int .i64), (.sl R0), .bool], [(0, 3), (1, 22), (2, 4)], 0, 40⟩),
  (49, ⟨false, [], [], 0, 0⟩),
  (119, ⟨false, [], [], 0, 8⟩)]
noncomputable def fsL : List (Nat × Func) := [(90, Try.f90), (31, Try.f31), (14, Try.f14), (24, Try.f24), (33, Try.f33), (16, Try.f16), (99, Try.f99), (94, Try.f94), (112, Try.f112), (71, Try.f71), (91, Try.f91), (92, Try.f92), (32, Try.f32), (101, Try.f101), (100, Try.f100), (118, Try.f118), (109, Try.f109), (163, Try.f163), (181, Try.f181), (162, Try.f162), (125, Try.f125), (70, Try.f70), (157, Try.f157), (93, Try.f93), (34, Try.f34), (27, Try.f27), (35, Try.f35), (19, Try.f19), (28, Try.f28), (36, Try.f36), (20, Try.f20), (52, Try.f52), (37, Try.f37), (38, Try.f38), (5, Try.f5)]
noncomputable def fs : Nat → Option Func := getF fsL
theorem MIX : Try.prog.follows .mixedOrders = true := by kernel_rfl
theorem TY : tyCheck Try.prog tb = true := by kernel_rfl
theorem CAT : catCheck tb = true := by kernel_rfl
theorem FSP : FsP Try.prog fsL := ⟨Try.func90, Try.func31, Try.func14, Try.func24, Try.func33, Try.func16, Try.func99, Try.func94, Try.func112, Try.func71, Try.func91, Try.func92, Try.func32, Try.func101, Try.func100, Try.func118, Try.func109, Try.func163, Try.func181, Try.func162, Try.func125, Try.func70, Try.func157, Try.func93, Try.func34, Try.func27, Try.func35, Try.func19, Try.func28, Try.func36, Try.func20, Try.func52, Try.func37, Try.func38, Try.func5, trivial⟩
theorem FSC : (fsL.all fun p => fnChk p.2) = true := by kernel_rfl
theorem FS : FsS Try.prog fs := FsS.of FSP FSC
/-! laws.szIntS: function 90 -/
noncomputable def f_laws_szIntS (x0 : List Int) (x1 : Int) : Option (Int) :=
  bif (decide ((IntKind.wrap .i64 (x1 - (x0.length : Int))) < (0 : Int))) then
    some (-1)
  else
    some (IntKind.wrap .i64 (x1 - (x0.length : Int)))
noncomputable def C90 : Con := ⟨[(.B, false, [(.sl R0)]), (.B, false, [(.int .i64)])], [(false, [(.int .i64)])], [(.sl R0), (.int .i64)], [(.int .i64)], fun (p : List Int × Int) => f_laws_szIntS p.1 p.2⟩
noncomputable abbrev K90 : Cons := []
noncomputable abbrev L90 : List (Nat × Loops) := []
abbrev Q90 : List (Nat × List (Int × Nat) × Nat) := []
noncomputable abbrev X90 : Nat → Ctx := ctxOf tb K90 L90 Q90
theorem E90 : ∀ x, funRun fs X90 6 90 C90 x = C90.fn x := fun x => by kernel_rfl
theorem B90 : ConB Try.prog 90 C90 := ConB.make FS MIX TY (cons := K90) (L := L90) (ptrs := Q90) trivial trivial trivial rfl rfl E90
theorem S90 : ConS Try.prog 90 C90 := B90.call rfl
/-! laws.szFrame: function 31 -/
noncomputable def f_laws_szFrame (x0 : Int) (x1 : List Int) (x2 : Bool) (x3 : Int) : Option (Int) :=
  (f_laws_szIntS x1 x3).bind fun y1 =>
  bif (decide (y1 < (0 : Int))) then
    some (-1)
  else
    some y1
noncomputable def C31 : Con := ⟨[(.B, true, [(.int .i64), (.sl R0), .bool]), (.B, false, [(.int .i64)])], [(false, [(.int .i64)])], [(.int .i64), (.sl R0), .bool, (.int .i64)], [(.int .i64)], fun (p : Int × List Int × Bool × Int) => f_laws_szFrame p.1 p.2.1 p.2.2.1 p.2.2.2⟩
noncomputable abbrev K31 : Cons := [(90, C90)]
noncomputable abbrev L31 : List (Nat × Loops) := []
abbrev Q31 : List (Nat × List (Int × Nat) × Nat) := []
noncomputable abbrev X31 : Nat → Ctx := ctxOf tb K31 L31 Q31
theorem E31 : ∀ x, funRun fs X31 6 31 C31 x = C31.fn x := fun x => by kernel_rfl
theorem B31 : ConB Try.prog 31 C31 := ConB.make FS MIX TY (cons := K31) (L := L31) (ptrs := Q31) ⟨S90, trivial⟩ trivial trivial rfl rfl E31
theorem S31 : ConS Try.prog 31 C31 := B31.call rfl
/-! laws.szMsg: function 14 -/
noncomputable def f_laws_szMsg (x0 : Int) (x1 : Int) (x2 : Bool) (x3 : List Int) (x4 : Int) : Option (Int) :=
  (f_laws_szIntS x3 x4).bind fun y2 =>
  bif (decide (y2 < (0 : Int))) then
    some (-1)
  else
    some y2
noncomputable def C14 : Con := ⟨[(.B, true, [(.int .i64), (.int .i64), .bool, (.sl R0)]), (.B, false, [(.int .i64)])], [(false, [(.int .i64)])], [(.int .i64), (.int .i64), .bool, (.sl R0), (.int .i64)], [(.int .i64)], fun (p : Int × Int × Bool × List Int × Int) => f_laws_szMsg p.1 p.2.1 p.2.2.1 p.2.2.2.1 p.2.2.2.2⟩
noncomputable abbrev K14 : Cons := [(90, C90)]
noncomputable abbrev L14 : List (Nat × Loops) := []
abbrev Q14 : List (Nat × List (Int × Nat) × Nat) := []
noncomputable abbrev X14 : Nat → Ctx := ctxOf tb K14 L14 Q14
theorem E14 : ∀ x, funRun fs X14 6 14 C14 x = C14.fn x := fun x => by kernel_rfl
theorem B14 : ConB Try.prog 14 C14 := ConB.make FS MIX TY (cons := K14) (L := L14) (ptrs := Q14) ⟨S90, trivial⟩ trivial trivial rfl rfl E14
theorem S14 : ConS Try.prog 14 C14 := B14.call rfl
/-! laws.toIntS: function 24 -/
noncomputable def f_laws_toIntS.l0 : Nat → (List Int) → Int → (List Int) → Option (List Int)
  | 0, _, _, _ => none
  | n + 1, p3, p4, p5 =>
    bif (decide (p4 < (p3.length : Int))) then
      bif ((decide ((0 : Int) ≤ p4)) && (decide (p4 < (p3.length : Int)))) then
      bif ((decide ((0 : Int) ≤ p4)) && (decide (p4 < (p5.length : Int)))) then
      (some ((p5.set p4.toNat (p3.getD p4.toNat 0)) : List Int)).bind fun z6 =>
      f_laws_toIntS.l0 n p3 (IntKind.wrap .i64 (p4 + (1 : Int))) z6
      else none
      else none
    else
      some p5
noncomputable def f_laws_toIntS (x0 : List Int) : Option (List Int) :=
  bif (decide ((0 : Int) ≤ (x0.length : Int)) && Nat.ble (x0.length : Int).toNat 17592186044416) then
  (f_laws_toIntS.l0 N x0 0 (List.replicate (x0.length : Int).toNat 0)).bind fun r7 =>
  some r7
  else none
noncomputable def C24 : Con := ⟨[(.B, false, [(.sl R0)])], [(false, [(.sl R0)])], [(.sl R0)], [(.sl R0)], fun (p : List Int) => f_laws_toIntS p⟩
noncomputable def f_laws_toIntS.l0.c : LoopCon := ⟨1000, 6, [0, 2, 3, 4], ⟨[(0, .bor none R0 []), (2, .nil (some R0)), (3, .ref 1000 [] none), (4, .int .i64 0)], [(1000, .row R0 [])], 1001⟩, [(.sl R0), (.int .i64), (.sl R0)], [⟨.exit 0, [2, 3], ⟨[(2, .nil (some R0)), (3, .ref 1000 [] none)], [(1000, .row R0 [])], 1001⟩, [(.sl R0)]⟩], fun (p : List Int × Int × List Int) => f_laws_toIntS.l0 N p.1 p.2.1 p.2.2⟩
noncomputable abbrev K24 : Cons := []
noncomputable abbrev L24 : List (Nat × Loops) := [(24, [(3, f_laws_toIntS.l0.c)])]
abbrev Q24 : List (Nat × List (Int × Nat) × Nat) := []
noncomputable abbrev X24 : Nat → Ctx := ctxOf tb K24 L24 Q24
theorem f_laws_toIntS.l0.ok : ∀ n p, (fun (p : List Int × Int × List Int) => f_laws_toIntS.l0 n p.1 p.2.1 p.2.2) p = iterD (roundOf fs X24 6 24 3 false f_laws_toIntS.l0.c) n p :=
  iter_of (l := fun n => fun (p : List Int × Int × List Int) => f_laws_toIntS.l0 n p.1 p.2.1 p.2.2) (fun _ => rfl) (fun n p => by kernel_rfl)
theorem E24 : ∀ x, funRun fs X24 6 24 C24 x = C24.fn x := fun x => by kernel_rfl
theorem B24 : ConB Try.prog 24 C24 := ConB.make FS MIX TY (cons := K24) (L := L24) (ptrs := Q24) trivial trivial ⟨⟨⟨N, fun p => f_laws_toIntS.l0.ok N p⟩, trivial⟩, trivial⟩ rfl rfl E24
theorem S24 : ConS Try.prog 24 C24 := B24.call rfl
/-! laws.toFrame: function 33 -/
noncomputable def f_laws_toFrame (x0 : Int) (x1 : List Int) (x2 : Bool) : Option (Int × List Int × Bool) :=
  (f_laws_toIntS x1).bind fun y8 =>
  some (x0, y8, x2)
noncomputable def C33 : Con := ⟨[(.B, true, [(.int .i64), (.sl R0), .bool])], [(true, [(.int .i64), (.sl R0), .bool])], [(.int .i64), (.sl R0), .bool], [(.int .i64), (.sl R0), .bool], fun (p : Int × List Int × Bool) => f_laws_toFrame p.1 p.2.1 p.2.2⟩
noncomputable abbrev K33 : Cons := [(24, C24)]
noncomputable abbrev L33 : List (Nat × Loops) := []
abbrev Q33 : List (Nat × List (Int × Nat) × Nat) := []
noncomputable abbrev X33 : Nat → Ctx := ctxOf tb K33 L33 Q33
theorem E33 : ∀ x, funRun fs X33 6 33 C33 x = C33.fn x := fun x => by kernel_rfl
theorem B33 : ConB Try.prog 33 C33 := ConB.make FS MIX TY (cons := K33) (L := L33) (ptrs := Q33) ⟨S24, trivial⟩ trivial trivial rfl rfl E33
theorem S33 : ConS Try.prog 33 C33 := B33.call rfl
/-! laws.toMsg: function 16 -/
noncomputable def f_laws_toMsg (x0 : Int) (x1 : Int) (x2 : Bool) (x3 : List Int) : Option (Int × Int × Bool × List Int) :=
  (f_laws_toIntS x3).bind fun y9 =>
  some (x0, x1, x2, y9)
noncomputable def C16 : Con := ⟨[(.B, true, [(.int .i64), (.int .i64), .bool, (.sl R0)])], [(true, [(.int .i64), (.int .i64), .bool, (.sl R0)])], [(.int .i64), (.int .i64), .bool, (.sl R0)], [(.int .i64), (.int .i64), .bool, (.sl R0)], fun (p : Int × Int × Bool × List Int) => f_laws_toMsg p.1 p.2.1 p.2.2.1 p.2.2.2⟩
noncomputable abbrev K16 : Cons := [(24, C24)]
noncomputable abbrev L16 : List (Nat × Loops) := []
abbrev Q16 : List (Nat × List (Int × Nat) × Nat) := []
noncomputable abbrev X16 : Nat → Ctx := ctxOf tb K16 L16 Q16
theorem E16 : ∀ x, funRun fs X16 6 16 C16 x = C16.fn x := fun x => by kernel_rfl
theorem B16 : ConB Try.prog 16 C16 := ConB.make FS MIX TY (cons := K16) (L := L16) (ptrs := Q16) ⟨S24, trivial⟩ trivial trivial rfl rfl E16
theorem S16 : ConS Try.prog 16 C16 := B16.call rfl
/-! spec.l3Copy: function 99 -/
noncomputable def f_spec_l3Copy (x0 : Int) (x1 : List Int) (x2 : Bool) : Option (Int × List Int × Bool) :=
  bif (Nat.blt (([] : List Int).length + x1.length) 17592186044416) then
  (some ((([] : List Int) ++ x1) : List Int)).bind fun z10 =>
  some (x0, z10, x2)
  else none
noncomputable def C99 : Con := ⟨[(.B, true, [(.int .i64), (.sl R0), .bool])], [(true, [(.int .i64), (.sl R0), .bool])], [(.int .i64), (.sl R0), .bool], [(.int .i64), (.sl R0), .bool], fun (p : Int × List Int × Bool) => f_spec_l3Copy p.1 p.2.1 p.2.2⟩
noncomputable abbrev K99 : Cons := []
noncomputable abbrev L99 : List (Nat × Loops) := []
abbrev Q99 : List (Nat × List (Int × Nat) × Nat) := []
noncomputable abbrev X99 : Nat → Ctx := ctxOf tb K99 L99 Q99
theorem E99 : ∀ x, funRun fs X99 6 99 C99 x = C99.fn x := fun x => by kernel_rfl
theorem B99 : ConB Try.prog 99 C99 := ConB.make FS MIX TY (cons := K99) (L := L99) (ptrs := Q99) trivial trivial trivial rfl rfl E99
theorem S99 : ConS Try.prog 99 C99 := B99.call rfl
/-! spec.l1In: function 94 -/
noncomputable def f_spec_l1In (x0 : Int) (x1 : Int) (x2 : Int) : Option (Bool) :=
  bif (decide (x1 ≤ x0)) then
    some (decide (x0 ≤ x2))
  else
    some false
noncomputable def C94 : Con := ⟨[(.B, false, [(.int .i64)]), (.B, false, [(.int .i64)]), (.B, false, [(.int .i64)])], [(false, [.bool])], [(.int .i64), (.int .i64), (.int .i64)], [.bool], fun (p : Int × Int × Int) => f_spec_l1In p.1 p.2.1 p.2.2⟩
noncomputable abbrev K94 : Cons := []
noncomputable abbrev L94 : List (Nat × Loops) := []
abbrev Q94 : List (Nat × List (Int × Nat) × Nat) := []
noncomputable abbrev X94 : Nat → Ctx := ctxOf tb K94 L94 Q94
theorem E94 : ∀ x, funRun fs X94 6 94 C94 x = C94.fn x := fun x => by kernel_rfl
theorem B94 : ConB Try.prog 94 C94 := ConB.make FS MIX TY (cons := K94) (L := L94) (ptrs := Q94) trivial trivial trivial rfl rfl E94
theorem S94 : ConS Try.prog 94 C94 := B94.call rfl
/-! spec.l1Words: function 112 -/
noncomputable def f_spec_l1Words.l0 : Nat → (List Int) → Int → Bool → Int → Option ((Bool) ⊕ (List Int × Int × Bool))
  | 0, _, _, _, _ => none
  | n + 1, p11, p12, p13, p14 =>
    bif (decide (p14 < (p11.length : Int))) then
      bif ((decide ((0 : Int) ≤ p14)) && (decide (p14 < (p11.length : Int)))) then
      (f_spec_l1In (p11.getD p14.toNat 0) 0 65535).bind fun y15 =>
      bif (!y15) then
        some (.inl false)
      else
        f_spec_l1Words.l0 n p11 p12 p13 (IntKind.wrap .i64 (p14 + (1 : Int)))
      else none
    else
      some (.inr (p11, p12, p13))
noncomputable def f_spec_l1Words (x0 : List Int) (x1 : Int) : Option (Bool) :=
  (f_spec_l1Words.l0 N x0 x1 false 0).bind fun r16 =>
  cs r16 (fun a17 =>
    some a17) (fun b18 =>
    some (decide ((b18.1.length : Int) = b18.2.1)))
noncomputable def C112 : Con := ⟨[(.B, false, [(.sl R0)]), (.B, false, [(.int .i64)])], [(false, [.bool])], [(.sl R0), (.int .i64)], [.bool], fun (p : List Int × Int) => f_spec_l1Words p.1 p.2⟩
noncomputable def f_spec_l1Words.l0.c : LoopCon := ⟨1000, 6, [0, 1, 4, 5], ⟨[(0, .bor none R0 []), (1, .int .i64 0), (4, .bool false), (5, .int .i64 0)], [], 1000⟩, [(.sl R0), (.int .i64), .bool, (.int .i64)], [⟨.ret, [4], ⟨[(4, .bool false)], [], 1000⟩, [.bool]⟩, ⟨.exit 0, [0, 1, 4], ⟨[(0, .bor none R0 []), (1, .int .i64 0), (4, .bool false)], [], 1000⟩, [(.sl R0), (.int .i64), .bool]⟩], fun (p : List Int × Int × Bool × Int) => f_spec_l1Words.l0 N p.1 p.2.1 p.2.2.1 p.2.2.2⟩
noncomputable abbrev K112 : Cons := [(94, C94)]
noncomputable abbrev L112 : List (Nat × Loops) := [(112, [(2, f_spec_l1Words.l0.c)])]
abbrev Q112 : List (Nat × List (Int × Nat) × Nat) := []
noncomputable abbrev X112 : Nat → Ctx := ctxOf tb K112 L112 Q112
theorem f_spec_l1Words.l0.ok : ∀ n p, (fun (p : List Int × Int × Bool × Int) => f_spec_l1Words.l0 n p.1 p.2.1 p.2.2.1 p.2.2.2) p = iterD (roundOf fs X112 6 112 2 false f_spec_l1Words.l0.c) n p :=
  iter_of (l := fun n => fun (p : List Int × Int × Bool × Int) => f_spec_l1Words.l0 n p.1 p.2.1 p.2.2.1 p.2.2.2) (fun _ => rfl) (fun n p => by kernel_rfl)
theorem E112 : ∀ x, funRun fs X112 6 112 C112 x = C112.fn x := fun x => by kernel_rfl
theorem B112 : ConB Try.prog 112 C112 := ConB.make FS MIX TY (cons := K112) (L := L112) (ptrs := Q112) ⟨S94, trivial⟩ trivial ⟨⟨⟨N, fun p => f_spec_l1Words.l0.ok N p⟩, trivial⟩, trivial⟩ rfl rfl E112
theorem S112 : ConS Try.prog 112 C112 := B112.call rfl
/-! spec.FrameOk: function 71 -/
noncomputable def f_spec_FrameOk (x0 : Int) (x1 : List Int) (x2 : Bool) : Option (Bool) :=
  bif (decide (x0 = (0 : Int))) then
    some (decide ((x1.length : Int) = (0 : Int)))
  else
    (f_spec_l1In x0 0 2).bind fun y19 =>
    bif y19 then
      (f_spec_l1Words x1 4).bind fun y20 =>
      some y20
    else
      some false
noncomputable def C71 : Con := ⟨[(.B, true, [(.int .i64), (.sl R0), .bool])], [(false, [.bool])], [(.int .i64), (.sl R0), .bool], [.bool], fun (p : Int × List Int × Bool) => f_spec_FrameOk p.1 p.2.1 p.2.2⟩
noncomputable abbrev K71 : Cons := [(94, C94), (112, C112)]
noncomputable abbrev L71 : List (Nat × Loops) := []
abbrev Q71 : List (Nat × List (Int × Nat) × Nat) := []
noncomputable abbrev X71 : Nat → Ctx := ctxOf tb K71 L71 Q71
theorem E71 : ∀ x, funRun fs X71 6 71 C71 x = C71.fn x := fun x => by kernel_rfl
theorem B71 : ConB Try.prog 71 C71 := ConB.make FS MIX TY (cons := K71) (L := L71) (ptrs := Q71) ⟨S94, S112, trivial⟩ trivial trivial rfl rfl E71
theorem S71 : ConS Try.prog 71 C71 := B71.call rfl
/-! spec.MsgOk: function 91 -/
noncomputable def f_spec_MsgOk (x0 : Int) (x1 : Int) (x2 : Bool) (x3 : List Int) : Option (Bool) :=
  bif (decide (x0 = (3 : Int))) then
    bif (decide (x0 = (3 : Int))) then
      (f_spec_l1In x0 1 7).bind fun y21 =>
      bif y21 then
        (f_spec_l1In x1 0 5).bind fun y22 =>
        bif y22 then
          (f_spec_l1Words x3 4).bind fun y23 =>
          some y23
        else
          some false
      else
        some false
    else
      (f_spec_l1In x0 1 7).bind fun y24 =>
      bif y24 then
        (f_spec_l1In x1 0 5).bind fun y25 =>
        bif y25 then
          bif (decide (x0 = (6 : Int))) then
            (f_spec_l1Words x3 4).bind fun y26 =>
            some y26
          else
            bif (!x2) then
              (f_spec_l1Words x3 4).bind fun y27 =>
              some y27
            else
              some false
        else
          some false
      else
        some false
  else
    bif (decide (x0 = (7 : Int))) then
      bif (decide (x0 = (3 : Int))) then
        (f_spec_l1In x0 1 7).bind fun y28 =>
        bif y28 then
          (f_spec_l1In x1 0 5).bind fun y29 =>
          bif y29 then
            (f_spec_l1Words x3 4).bind fun y30 =>
            some y30
          else
            some false
        else
          some false
      else
        (f_spec_l1In x0 1 7).bind fun y31 =>
        bif y31 then
          (f_spec_l1In x1 0 5).bind fun y32 =>
          bif y32 then
            bif (decide (x0 = (6 : Int))) then
              (f_spec_l1Words x3 4).bind fun y33 =>
              some y33
            else
              bif (!x2) then
                (f_spec_l1Words x3 4).bind fun y34 =>
                some y34
              else
                some false
          else
            some false
        else
          some false
    else
      bif (decide (x0 = (3 : Int))) then
        (f_spec_l1In x0 1 7).bind fun y35 =>
        bif y35 then
          (f_spec_l1In x1 0 5).bind fun y36 =>
          bif y36 then
            (f_spec_l1Words x3 0).bind fun y37 =>
            some y37
          else
            some false
        else
          some false
      else
        (f_spec_l1In x0 1 7).bind fun y38 =>
        bif y38 then
          (f_spec_l1In x1 0 5).bind fun y39 =>
          bif y39 then
            bif (decide (x0 = (6 : Int))) then
              (f_spec_l1Words x3 0).bind fun y40 =>
              some y40
            else
              bif (!x2) then
                (f_spec_l1Words x3 0).bind fun y41 =>
                some y41
              else
                some false
          else
            some false
        else
          some false
noncomputable def C91 : Con := ⟨[(.B, true, [(.int .i64), (.int .i64), .bool, (.sl R0)])], [(false, [.bool])], [(.int .i64), (.int .i64), .bool, (.sl R0)], [.bool], fun (p : Int × Int × Bool × List Int) => f_spec_MsgOk p.1 p.2.1 p.2.2.1 p.2.2.2⟩
noncomputable abbrev K91 : Cons := [(94, C94), (112, C112)]
noncomputable abbrev L91 : List (Nat × Loops) := []
abbrev Q91 : List (Nat × List (Int × Nat) × Nat) := []
noncomputable abbrev X91 : Nat → Ctx := ctxOf tb K91 L91 Q91
theorem E91 : ∀ x, funRun fs X91 6 91 C91 x = C91.fn x := fun x => by kernel_rfl
theorem B91 : ConB Try.prog 91 C91 := ConB.make FS MIX TY (cons := K91) (L := L91) (ptrs := Q91) ⟨S94, S112, trivial⟩ trivial trivial rfl rfl E91
theorem S91 : ConS Try.prog 91 C91 := B91.call rfl
/-! spec.l1Bit: function 92 -/
noncomputable def f_spec_l1Bit (x0 : Bool) : Option (Int) :=
  bif x0 then
    some 1
  else
    some 0
noncomputable def C92 : Con := ⟨[(.B, false, [.bool])], [(false, [(.int .i64)])], [.bool], [(.int .i64)], fun (p : Bool) => f_spec_l1Bit p⟩
noncomputable abbrev K92 : Cons := []
noncomputable abbrev L92 : List (Nat × Loops) := []
abbrev Q92 : List (Nat × List (Int × Nat) × Nat) := []
noncomputable abbrev X92 : Nat → Ctx := ctxOf tb K92 L92 Q92
theorem E92 : ∀ x, funRun fs X92 6 92 C92 x = C92.fn x := fun x => by kernel_rfl
theorem B92 : ConB Try.prog 92 C92 := ConB.make FS MIX TY (cons := K92) (L := L92) (ptrs := Q92) trivial trivial trivial rfl rfl E92
theorem S92 : ConS Try.prog 92 C92 := B92.call rfl
/-! spec.FrameHear: function 32 -/
noncomputable def f_spec_FrameHear (x0 : Int) (x1 : List Int) (x2 : Bool) (x3 : Int) (x4 : Int) (x5 : Bool) (x6 : List Int) : Option (Int × List Int × Bool × Int × Int × Bool × List Int × Bool) :=
  (f_spec_l3Copy x0 x1 x2).bind fun y42 =>
  (f_spec_FrameOk x0 x1 x2).bind fun y43 =>
  bif (!y43) then
    some (y42.1, y42.2.1, y42.2.2, 0, 0, false, [], false)
  else
    (f_spec_MsgOk x3 x4 x5 x6).bind fun y44 =>
    bif (!y44) then
      some (y42.1, y42.2.1, y42.2.2, 0, 0, false, [], false)
    else
      bif (decide (x3 = (3 : Int))) then
        (f_spec_l1Bit x5).bind fun y45 =>
        bif (Nat.blt (([] : List Int).length + x6.length) 17592186044416) then
        (some ((([] : List Int) ++ x6) : List Int)).bind fun z46 =>
        some ((IntKind.wrap .i64 ((1 : Int) + y45)), z46, false, 0, 0, false, [], false)
        else none
      else
        bif (decide (x3 = (4 : Int))) then
          some (0, [], x2, 5, x4, false, [], true)
        else
          bif (decide (x3 = (6 : Int))) then
            bif (!(decide (x0 = (2 : Int)))) then
              some (y42.1, y42.2.1, y42.2.2, 0, 0, false, [], false)
            else
              bif (Nat.blt (([] : List Int).length + x1.length) 17592186044416) then
              (some ((([] : List Int) ++ x1) : List Int)).bind fun z47 =>
              bif x5 then
                some (0, [], x2, 7, x4, false, z47, true)
              else
                some (1, y42.2.1, y42.2.2, 7, x4, false, z47, true)
              else none
          else
            some (y42.1, y42.2.1, y42.2.2, 0, 0, false, [], false)
noncomputable def C32 : Con := ⟨[(.B, true, [(.int .i64), (.sl R0), .bool]), (.B, true, [(.int .i64), (.int .i64), .bool, (.sl R0)])], [(true, [(.int .i64), (.sl R0), .bool]), (true, [(.int .i64), (.int .i64), .bool, (.sl R0)]), (false, [.bool])], [(.int .i64), (.sl R0), .bool, (.int .i64), (.int .i64), .bool, (.sl R0)], [(.int .i64), (.sl R0), .bool, (.int .i64), (.int .i64), .bool, (.sl R0), .bool], fun (p : Int × List Int × Bool × Int × Int × Bool × List Int) => f_spec_FrameHear p.1 p.2.1 p.2.2.1 p.2.2.2.1 p.2.2.2.2.1 p.2.2.2.2.2.1 p.2.2.2.2.2.2⟩
noncomputable abbrev K32 : Cons := [(71, C71), (91, C91), (92, C92), (99, C99)]
noncomputable abbrev L32 : List (Nat × Loops) := []
abbrev Q32 : List (Nat × List (Int × Nat) × Nat) := []
noncomputable abbrev X32 : Nat → Ctx := ctxOf tb K32 L32 Q32
theorem E32 : ∀ x, funRun fs X32 6 32 C32 x = C32.fn x := fun x => by kernel_rfl
theorem B32 : ConB Try.prog 32 C32 := ConB.make FS MIX TY (cons := K32) (L := L32) (ptrs := Q32) ⟨S71, S91, S92, S99, trivial⟩ trivial trivial rfl rfl E32
theorem S32 : ConS Try.prog 32 C32 := B32.call rfl
/-! slices.Clone[[]int,int]: function 101 -/
noncomputable def f_slices_Clone_int_int (x0 : List Int) : Option (List Int) := bif Nat.blt (0 + x0.length) 17592186044416 then some x0 else none
noncomputable def C101 : Con := ⟨[(.B, false, [(.sl R0)])], [(false, [(.sl R0)])], [(.sl R0)], [(.sl R0)], f_slices_Clone_int_int⟩
noncomputable abbrev X101 : Nat → Ctx := ctxOf tb [] [] []
theorem E101 : ∀ x : List R0.den, bodyRun fs X101 6 101 C101 [] [] [.bor (some 1000) R0 x] [] = f_slices_Clone_int_int x := fun x => by kernel_rfl
theorem Z101 : bodyRun fs X101 6 101 C101 [] [] [.nil (some R0)] [] = f_slices_Clone_int_int ([] : List R0.den) := by kernel_rfl
theorem B101 : ConB Try.prog 101 C101 := ConB.copy FS MIX TY (cons := []) (L := []) (ptrs := []) trivial trivial trivial rfl E101 Z101
theorem S101 : ConS Try.prog 101 C101 := B101.call rfl
/-! impl.copyFrame: function 100 -/
noncomputable def f_impl_copyFrame (x0 : Int) (x1 : List Int) (x2 : Bool) : Option (Int × List Int × Bool) :=
  (f_slices_Clone_int_int x1).bind fun y48 =>
  some (x0, y48, x2)
noncomputable def C100 : Con := ⟨[(.B, true, [(.int .i64), (.sl R0), .bool])], [(true, [(.int .i64), (.sl R0), .bool])], [(.int .i64), (.sl R0), .bool], [(.int .i64), (.sl R0), .bool], fun (p : Int × List Int × Bool) => f_impl_copyFrame p.1 p.2.1 p.2.2⟩
noncomputable abbrev K100 : Cons := [(101, C101)]
noncomputable abbrev L100 : List (Nat × Loops) := []
abbrev Q100 : List (Nat × List (Int × Nat) × Nat) := []
noncomputable abbrev X100 : Nat → Ctx := ctxOf tb K100 L100 Q100
theorem E100 : ∀ x, funRun fs X100 6 100 C100 x = C100.fn x := fun x => by kernel_rfl
theorem B100 : ConB Try.prog 100 C100 := ConB.make FS MIX TY (cons := K100) (L := L100) (ptrs := Q100) ⟨S101, trivial⟩ trivial trivial rfl rfl E100
theorem S100 : ConS Try.prog 100 C100 := B100.call rfl
/-! impl.from: function 118 -/
noncomputable def f_impl_from (x0 : Int) (x1 : Int) (x2 : Int) : Option (Bool) :=
  bif (decide (x1 ≤ x0)) then
    some (decide (x0 ≤ x2))
  else
    some false
noncomputable def C118 : Con := ⟨[(.B, false, [(.int .i64)]), (.B, false, [(.int .i64)]), (.B, false, [(.int .i64)])], [(false, [.bool])], [(.int .i64), (.int .i64), (.int .i64)], [.bool], fun (p : Int × Int × Int) => f_impl_from p.1 p.2.1 p.2.2⟩
noncomputable abbrev K118 : Cons := []
noncomputable abbrev L118 : List (Nat × Loops) := []
abbrev Q118 : List (Nat × List (Int × Nat) × Nat) := []
noncomputable abbrev X118 : Nat → Ctx := ctxOf tb K118 L118 Q118
theorem E118 : ∀ x, funRun fs X118 6 118 C118 x = C118.fn x := fun x => by kernel_rfl
theorem B118 : ConB Try.prog 118 C118 := ConB.make FS MIX TY (cons := K118) (L := L118) (ptrs := Q118) trivial trivial trivial rfl rfl E118
theorem S118 : ConS Try.prog 118 C118 := B118.call rfl
/-! impl.isWord: function 109 -/
noncomputable def f_impl_isWord (x0 : Int) : Option (Bool) :=
  (f_impl_from x0 0 65535).bind fun y49 =>
  some y49
noncomputable def C109 : Con := ⟨[(.B, false, [(.int .i64)])], [(false, [.bool])], [(.int .i64)], [.bool], fun (p : Int) => f_impl_isWord p⟩
noncomputable abbrev K109 : Cons := [(118, C118)]
noncomputable abbrev L109 : List (Nat × Loops) := []
abbrev Q109 : List (Nat × List (Int × Nat) × Nat) := []
noncomputable abbrev X109 : Nat → Ctx := ctxOf tb K109 L109 Q109
theorem E109 : ∀ x, funRun fs X109 6 109 C109 x = C109.fn x := fun x => by kernel_rfl
theorem B109 : ConB Try.prog 109 C109 := ConB.make FS MIX TY (cons := K109) (L := L109) (ptrs := Q109) ⟨S118, trivial⟩ trivial trivial rfl rfl E109
theorem S109 : ConS Try.prog 109 C109 := B109.call rfl
/-! impl.wordsOk$1: function 163 -/
noncomputable def f_impl_wordsOk_1 (x0 : Int) : Option (Bool) :=
  (f_impl_isWord x0).bind fun y50 =>
  some (!y50)
noncomputable def C163 : Con := ⟨[(.B, false, [(.int .i64)])], [(false, [.bool])], [(.int .i64)], [.bool], fun (p : Int) => f_impl_wordsOk_1 p⟩
noncomputable abbrev K163 : Cons := [(109, C109)]
noncomputable abbrev L163 : List (Nat × Loops) := []
abbrev Q163 : List (Nat × List (Int × Nat) × Nat) := []
noncomputable abbrev X163 : Nat → Ctx := ctxOf tb K163 L163 Q163
theorem E163 : ∀ x, funRun fs X163 6 163 C163 x = C163.fn x := fun x => by kernel_rfl
theorem B163 : ConB Try.prog 163 C163 := ConB.make FS MIX TY (cons := K163) (L := L163) (ptrs := Q163) ⟨S109, trivial⟩ trivial trivial rfl rfl E163
theorem S163 : ConS Try.prog 163 C163 := B163.call rfl
/-! impl.wordsOk: function 125 -/
noncomputable def f_impl_wordsOk.l0 : Nat → (List Int) → Int → Int → Int → Option ((Int) ⊕ (Int))
  | 0, _, _, _, _ => none
  | n + 1, p51, p52, p53, p54 =>
    bif (decide (p54 < p53)) then
      bif ((decide ((0 : Int) ≤ p54)) && (decide (p54 < (p51.length : Int)))) then
      (f_impl_wordsOk_1 (p51.getD p54.toNat 0)).bind fun y55 =>
      bif y55 then
        some (.inl p54)
      else
        f_impl_wordsOk.l0 n p51 p52 p53 (IntKind.wrap .i64 (p54 + (1 : Int)))
      else none
    else
      some (.inr p52)
noncomputable def f_impl_wordsOk (x0 : List Int) (x1 : Int) : Option (Bool) :=
  bif (decide ((x0.length : Int) = x1)) then
    (f_impl_wordsOk.l0 N x0 0 (x0.length : Int) 0).bind fun r56 =>
    cs r56 (fun a57 =>
      some (!(decide ((0 : Int) ≤ a57)))) (fun b58 =>
      some true)
  else
    some false
noncomputable def C125 : Con := ⟨[(.B, false, [(.sl R0)]), (.B, false, [(.int .i64)])], [(false, [.bool])], [(.sl R0), (.int .i64)], [.bool], fun (p : List Int × Int) => f_impl_wordsOk p.1 p.2⟩
noncomputable def f_impl_wordsOk.l0.c : LoopCon := ⟨1274, 4, [0, 1, 4, 7, 8], ⟨[(0, .bor none R0 []), (1, .func 163 []), (4, .int .i64 0), (7, .int .i64 0), (8, .int .i64 0)], [], 1274⟩, [(.sl R0), (.int .i64), (.int .i64), (.int .i64)], [⟨.ret, [4], ⟨[(4, .int .i64 0)], [], 1274⟩, [(.int .i64)]⟩, ⟨.exit 0, [4], ⟨[(4, .int .i64 0)], [], 1274⟩, [(.int .i64)]⟩], fun (p : List Int × Int × Int × Int) => f_impl_wordsOk.l0 N p.1 p.2.1 p.2.2.1 p.2.2.2⟩
noncomputable abbrev K125 : Cons := [(163, C163)]
noncomputable abbrev L125 : List (Nat × Loops) := [(181, [(2, f_impl_wordsOk.l0.c)])]
abbrev Q125 : List (Nat × List (Int × Nat) × Nat) := []
noncomputable abbrev X125 : Nat → Ctx := ctxOf tb K125 L125 Q125
theorem f_impl_wordsOk.l0.ok : ∀ n p, (fun (p : List Int × Int × Int × Int) => f_impl_wordsOk.l0 n p.1 p.2.1 p.2.2.1 p.2.2.2) p = iterD (roundOf fs X125 4 181 2 true f_impl_wordsOk.l0.c) n p :=
  iter_of (l := fun n => fun (p : List Int × Int × Int × Int) => f_impl_wordsOk.l0 n p.1 p.2.1 p.2.2.1 p.2.2.2) (fun _ => rfl) (fun n p => by kernel_rfl)
theorem E125 : ∀ x, funRun fs X125 6 125 C125 x = C125.fn x := fun x => by kernel_rfl
theorem B125 : ConB Try.prog 125 C125 := ConB.make FS MIX TY (cons := K125) (L := L125) (ptrs := Q125) ⟨S163, trivial⟩ trivial ⟨⟨⟨N, fun p => f_impl_wordsOk.l0.ok N p⟩, trivial⟩, trivial⟩ rfl rfl E125
theorem S125 : ConS Try.prog 125 C125 := B125.call rfl
/-! impl.FrameOk: function 70 -/
noncomputable def f_impl_FrameOk (x0 : Int) (x1 : List Int) (x2 : Bool) : Option (Bool) :=
  bif (decide (x0 = (0 : Int))) then
    some (decide ((x1.length : Int) = (0 : Int)))
  else
    bif (decide (x0 = (1 : Int))) then
      (f_impl_wordsOk x1 4).bind fun y59 =>
      some y59
    else
      bif (decide (x0 = (2 : Int))) then
        (f_impl_wordsOk x1 4).bind fun y60 =>
        some y60
      else
        some false
noncomputable def C70 : Con := ⟨[(.B, true, [(.int .i64), (.sl R0), .bool])], [(false, [.bool])], [(.int .i64), (.sl R0), .bool], [.bool], fun (p : Int × List Int × Bool) => f_impl_FrameOk p.1 p.2.1 p.2.2⟩
noncomputable abbrev K70 : Cons := [(125, C125)]
noncomputable abbrev L70 : List (Nat × Loops) := []
abbrev Q70 : List (Nat × List (Int × Nat) × Nat) := []
noncomputable abbrev X70 : Nat → Ctx := ctxOf tb K70 L70 Q70
theorem E70 : ∀ x, funRun fs X70 6 70 C70 x = C70.fn x := fun x => by kernel_rfl
theorem B70 : ConB Try.prog 70 C70 := ConB.make FS MIX TY (cons := K70) (L := L70) (ptrs := Q70) ⟨S125, trivial⟩ trivial trivial rfl rfl E70
theorem S70 : ConS Try.prog 70 C70 := B70.call rfl
/-! impl.isPage: function 157 -/
noncomputable def f_impl_isPage (x0 : Int) : Option (Bool) :=
  (f_impl_from x0 0 5).bind fun y61 =>
  some y61
noncomputable def C157 : Con := ⟨[(.B, false, [(.int .i64)])], [(false, [.bool])], [(.int .i64)], [.bool], fun (p : Int) => f_impl_isPage p⟩
noncomputable abbrev K157 : Cons := [(118, C118)]
noncomputable abbrev L157 : List (Nat × Loops) := []
abbrev Q157 : List (Nat × List (Int × Nat) × Nat) := []
noncomputable abbrev X157 : Nat → Ctx := ctxOf tb K157 L157 Q157
theorem E157 : ∀ x, funRun fs X157 6 157 C157 x = C157.fn x := fun x => by kernel_rfl
theorem B157 : ConB Try.prog 157 C157 := ConB.make FS MIX TY (cons := K157) (L := L157) (ptrs := Q157) ⟨S118, trivial⟩ trivial trivial rfl rfl E157
theorem S157 : ConS Try.prog 157 C157 := B157.call rfl
/-! impl.MsgOk: function 93 -/
noncomputable def f_impl_MsgOk (x0 : Int) (x1 : Int) (x2 : Bool) (x3 : List Int) : Option (Bool) :=
  (f_impl_from x0 1 7).bind fun y62 =>
  bif (!y62) then
    some false
  else
    (f_impl_isPage x1).bind fun y63 =>
    bif (!y63) then
      some false
    else
      bif x2 then
        bif (!(decide (x0 = (3 : Int)))) then
          bif (!(decide (x0 = (6 : Int)))) then
            some false
          else
            bif (decide (x0 = (3 : Int))) then
              (f_impl_wordsOk x3 4).bind fun y64 =>
              some y64
            else
              bif (decide (x0 = (7 : Int))) then
                (f_impl_wordsOk x3 4).bind fun y65 =>
                some y65
              else
                some (decide ((x3.length : Int) = (0 : Int)))
        else
          bif (decide (x0 = (3 : Int))) then
            (f_impl_wordsOk x3 4).bind fun y66 =>
            some y66
          else
            bif (decide (x0 = (7 : Int))) then
              (f_impl_wordsOk x3 4).bind fun y67 =>
              some y67
            else
              some (decide ((x3.length : Int) = (0 : Int)))
      else
        bif (decide (x0 = (3 : Int))) then
          (f_impl_wordsOk x3 4).bind fun y68 =>
          some y68
        else
          bif (decide (x0 = (7 : Int))) then
            (f_impl_wordsOk x3 4).bind fun y69 =>
            some y69
          else
            some (decide ((x3.length : Int) = (0 : Int)))
noncomputable def C93 : Con := ⟨[(.B, true, [(.int .i64), (.int .i64), .bool, (.sl R0)])], [(false, [.bool])], [(.int .i64), (.int .i64), .bool, (.sl R0)], [.bool], fun (p : Int × Int × Bool × List Int) => f_impl_MsgOk p.1 p.2.1 p.2.2.1 p.2.2.2⟩
noncomputable abbrev K93 : Cons := [(118, C118), (125, C125), (157, C157)]
noncomputable abbrev L93 : List (Nat × Loops) := []
abbrev Q93 : List (Nat × List (Int × Nat) × Nat) := []
noncomputable abbrev X93 : Nat → Ctx := ctxOf tb K93 L93 Q93
theorem E93 : ∀ x, funRun fs X93 6 93 C93 x = C93.fn x := fun x => by kernel_rfl
theorem B93 : ConB Try.prog 93 C93 := ConB.make FS MIX TY (cons := K93) (L := L93) (ptrs := Q93) ⟨S118, S125, S157, trivial⟩ trivial trivial rfl rfl E93
theorem S93 : ConS Try.prog 93 C93 := B93.call rfl
/-! impl.FrameHear: function 34 -/
noncomputable def f_impl_FrameHear (x0 : Int) (x1 : List Int) (x2 : Bool) (x3 : Int) (x4 : Int) (x5 : Bool) (x6 : List Int) : Option (Int × List Int × Bool × Int × Int × Bool × List Int × Bool) :=
  (f_impl_copyFrame x0 x1 x2).bind fun y70 =>
  (f_impl_FrameOk x0 x1 x2).bind fun y71 =>
  bif (!y71) then
    some (y70.1, y70.2.1, y70.2.2, 0, 0, false, [], false)
  else
    (f_impl_MsgOk x3 x4 x5 x6).bind fun y72 =>
    bif (!y72) then
      some (y70.1, y70.2.1, y70.2.2, 0, 0, false, [], false)
    else
      bif (decide (x3 = (3 : Int))) then
        (f_slices_Clone_int_int x6).bind fun y73 =>
        bif x5 then
          some (2, y73, false, 0, 0, false, [], false)
        else
          some (1, y73, false, 0, 0, false, [], false)
      else
        bif (decide (x3 = (4 : Int))) then
          some (0, [], x2, 5, x4, false, [], true)
        else
          bif (decide (x3 = (6 : Int))) then
            bif (decide (x0 = (2 : Int))) then
              (f_slices_Clone_int_int x1).bind fun y74 =>
              bif x5 then
                some (0, [], x2, 7, x4, false, y74, true)
              else
                some (1, y70.2.1, y70.2.2, 7, x4, false, y74, true)
            else
              some (y70.1, y70.2.1, y70.2.2, 0, 0, false, [], false)
          else
            some (y70.1, y70.2.1, y70.2.2, 0, 0, false, [], false)
noncomputable def C34 : Con := ⟨[(.B, true, [(.int .i64), (.sl R0), .bool]), (.B, true, [(.int .i64), (.int .i64), .bool, (.sl R0)])], [(true, [(.int .i64), (.sl R0), .bool]), (true, [(.int .i64), (.int .i64), .bool, (.sl R0)]), (false, [.bool])], [(.int .i64), (.sl R0), .bool, (.int .i64), (.int .i64), .bool, (.sl R0)], [(.int .i64), (.sl R0), .bool, (.int .i64), (.int .i64), .bool, (.sl R0), .bool], fun (p : Int × List Int × Bool × Int × Int × Bool × List Int) => f_impl_FrameHear p.1 p.2.1 p.2.2.1 p.2.2.2.1 p.2.2.2.2.1 p.2.2.2.2.2.1 p.2.2.2.2.2.2⟩
noncomputable abbrev K34 : Cons := [(70, C70), (93, C93), (100, C100), (101, C101)]
noncomputable abbrev L34 : List (Nat × Loops) := []
abbrev Q34 : List (Nat × List (Int × Nat) × Nat) := []
noncomputable abbrev X34 : Nat → Ctx := ctxOf tb K34 L34 Q34
theorem E34 : ∀ x, funRun fs X34 6 34 C34 x = C34.fn x := fun x => by kernel_rfl
theorem B34 : ConB Try.prog 34 C34 := ConB.make FS MIX TY (cons := K34) (L := L34) (ptrs := Q34) ⟨S70, S93, S100, S101, trivial⟩ trivial trivial rfl rfl E34
theorem S34 : ConS Try.prog 34 C34 := B34.call rfl
/-! laws.eqIntS: function 27 -/
noncomputable def f_laws_eqIntS.l0 : Nat → (List Int) → (List Int) → Bool → Int → Option ((Bool) ⊕ (Bool))
  | 0, _, _, _, _ => none
  | n + 1, p75, p76, p77, p78 =>
    bif (decide (p78 < (p75.length : Int))) then
      bif ((decide ((0 : Int) ≤ p78)) && (decide (p78 < (p75.length : Int)))) then
      bif ((decide ((0 : Int) ≤ p78)) && (decide (p78 < (p76.length : Int)))) then
      bif (!(decide ((p75.getD p78.toNat 0) = (p76.getD p78.toNat 0)))) then
        some (.inl false)
      else
        f_laws_eqIntS.l0 n p75 p76 p77 (IntKind.wrap .i64 (p78 + (1 : Int)))
      else none
      else none
    else
      some (.inr p77)
noncomputable def f_laws_eqIntS (x0 : List Int) (x1 : List Int) : Option (Bool) :=
  bif (!(decide ((x0.length : Int) = (x1.length : Int)))) then
    some false
  else
    (f_laws_eqIntS.l0 N x0 x1 false 0).bind fun r79 =>
    cs r79 (fun a80 =>
      some a80) (fun b81 =>
      some true)
noncomputable def C27 : Con := ⟨[(.B, false, [(.sl R0)]), (.B, false, [(.sl R0)])], [(false, [.bool])], [(.sl R0), (.sl R0)], [.bool], fun (p : List Int × List Int) => f_laws_eqIntS p.1 p.2⟩
noncomputable def f_laws_eqIntS.l0.c : LoopCon := ⟨1000, 6, [0, 1, 4, 5], ⟨[(0, .bor none R0 []), (1, .bor none R0 []), (4, .bool false), (5, .int .i64 0)], [], 1000⟩, [(.sl R0), (.sl R0), .bool, (.int .i64)], [⟨.ret, [4], ⟨[(4, .bool false)], [], 1000⟩, [.bool]⟩, ⟨.exit 0, [4], ⟨[(4, .bool false)], [], 1000⟩, [.bool]⟩], fun (p : List Int × List Int × Bool × Int) => f_laws_eqIntS.l0 N p.1 p.2.1 p.2.2.1 p.2.2.2⟩
noncomputable abbrev K27 : Cons := []
noncomputable abbrev L27 : List (Nat × Loops) := [(27, [(4, f_laws_eqIntS.l0.c)])]
abbrev Q27 : List (Nat × List (Int × Nat) × Nat) := []
noncomputable abbrev X27 : Nat → Ctx := ctxOf tb K27 L27 Q27
theorem f_laws_eqIntS.l0.ok : ∀ n p, (fun (p : List Int × List Int × Bool × Int) => f_laws_eqIntS.l0 n p.1 p.2.1 p.2.2.1 p.2.2.2) p = iterD (roundOf fs X27 6 27 4 false f_laws_eqIntS.l0.c) n p :=
  iter_of (l := fun n => fun (p : List Int × List Int × Bool × Int) => f_laws_eqIntS.l0 n p.1 p.2.1 p.2.2.1 p.2.2.2) (fun _ => rfl) (fun n p => by kernel_rfl)
theorem E27 : ∀ x, funRun fs X27 6 27 C27 x = C27.fn x := fun x => by kernel_rfl
theorem B27 : ConB Try.prog 27 C27 := ConB.make FS MIX TY (cons := K27) (L := L27) (ptrs := Q27) trivial trivial ⟨⟨⟨N, fun p => f_laws_eqIntS.l0.ok N p⟩, trivial⟩, trivial⟩ rfl rfl E27
theorem S27 : ConS Try.prog 27 C27 := B27.call rfl
/-! laws.eqFrame: function 35 -/
noncomputable def f_laws_eqFrame (x0 : Int) (x1 : List Int) (x2 : Bool) (x3 : Int) (x4 : List Int) (x5 : Bool) : Option (Bool) :=
  bif (!(decide (x0 = x3))) then
    some false
  else
    (f_laws_eqIntS x1 x4).bind fun y82 =>
    bif (!y82) then
      some false
    else
      bif (!(x2 == x5)) then
        some false
      else
        some true
noncomputable def C35 : Con := ⟨[(.B, true, [(.int .i64), (.sl R0), .bool]), (.B, true, [(.int .i64), (.sl R0), .bool])], [(false, [.bool])], [(.int .i64), (.sl R0), .bool, (.int .i64), (.sl R0), .bool], [.bool], fun (p : Int × List Int × Bool × Int × List Int × Bool) => f_laws_eqFrame p.1 p.2.1 p.2.2.1 p.2.2.2.1 p.2.2.2.2.1 p.2.2.2.2.2⟩
noncomputable abbrev K35 : Cons := [(27, C27)]
noncomputable abbrev L35 : List (Nat × Loops) := []
abbrev Q35 : List (Nat × List (Int × Nat) × Nat) := []
noncomputable abbrev X35 : Nat → Ctx := ctxOf tb K35 L35 Q35
theorem E35 : ∀ x, funRun fs X35 6 35 C35 x = C35.fn x := fun x => by kernel_rfl
theorem B35 : ConB Try.prog 35 C35 := ConB.make FS MIX TY (cons := K35) (L := L35) (ptrs := Q35) ⟨S27, trivial⟩ trivial trivial rfl rfl E35
theorem S35 : ConS Try.prog 35 C35 := B35.call rfl
/-! laws.eqMsg: function 19 -/
noncomputable def f_laws_eqMsg (x0 : Int) (x1 : Int) (x2 : Bool) (x3 : List Int) (x4 : Int) (x5 : Int) (x6 : Bool) (x7 : List Int) : Option (Bool) :=
  bif (!(decide (x0 = x4))) then
    some false
  else
    bif (!(decide (x1 = x5))) then
      some false
    else
      bif (!(x2 == x6)) then
        some false
      else
        (f_laws_eqIntS x3 x7).bind fun y83 =>
        bif (!y83) then
          some false
        else
          some true
noncomputable def C19 : Con := ⟨[(.B, true, [(.int .i64), (.int .i64), .bool, (.sl R0)]), (.B, true, [(.int .i64), (.int .i64), .bool, (.sl R0)])], [(false, [.bool])], [(.int .i64), (.int .i64), .bool, (.sl R0), (.int .i64), (.int .i64), .bool, (.sl R0)], [.bool], fun (p : Int × Int × Bool × List Int × Int × Int × Bool × List Int) => f_laws_eqMsg p.1 p.2.1 p.2.2.1 p.2.2.2.1 p.2.2.2.2.1 p.2.2.2.2.2.1 p.2.2.2.2.2.2.1 p.2.2.2.2.2.2.2⟩
noncomputable abbrev K19 : Cons := [(27, C27)]
noncomputable abbrev L19 : List (Nat × Loops) := []
abbrev Q19 : List (Nat × List (Int × Nat) × Nat) := []
noncomputable abbrev X19 : Nat → Ctx := ctxOf tb K19 L19 Q19
theorem E19 : ∀ x, funRun fs X19 6 19 C19 x = C19.fn x := fun x => by kernel_rfl
theorem B19 : ConB Try.prog 19 C19 := ConB.make FS MIX TY (cons := K19) (L := L19) (ptrs := Q19) ⟨S27, trivial⟩ trivial trivial rfl rfl E19
theorem S19 : ConS Try.prog 19 C19 := B19.call rfl
/-! laws.markIntS: function 28 -/
noncomputable def f_laws_markIntS.l0 : Nat → Int → Int → Int → (List Int) → Option (Int × Int × List Int)
  | 0, _, _, _, _ => none
  | n + 1, p84, p85, p86, p87 =>
    bif (decide (p86 < (p87.length : Int))) then
      bif ((decide ((0 : Int) ≤ p86)) && (decide (p86 < (p87.length : Int)))) then
      (some ((p87.set p86.toNat p84) : List Int)).bind fun z88 =>
      f_laws_markIntS.l0 n (IntKind.wrap .i64 (p84 + (1 : Int))) p85 (IntKind.wrap .i64 (p86 + (1 : Int))) z88
      else none
    else
      some (p84, p85, p87)
noncomputable def f_laws_markIntS (x0 : List Int) (x1 : Int) : Option (Int × List Int) :=
  (f_laws_markIntS.l0 N x1 0 0 x0).bind fun r89 =>
  some (r89.1, r89.2.2)
noncomputable def C28 : Con := ⟨[(.I, false, [(.sl R0)]), (.B, false, [(.int .i64)])], [(false, [(.int .i64)])], [(.sl R0), (.int .i64)], [(.int .i64), (.sl R0)], fun (p : List Int × Int) => f_laws_markIntS p.1 p.2⟩
noncomputable def f_laws_markIntS.l0.c : LoopCon := ⟨1000, 6, [0, 1, 4, 5], ⟨[(0, .ref 0 [] none), (1, .int .i64 0), (4, .int .i64 0), (5, .int .i64 0)], [(0, .row R0 [])], 1000⟩, [(.int .i64), (.int .i64), (.int .i64), (.sl R0)], [⟨.exit 0, [1, 4], ⟨[(1, .int .i64 0), (4, .int .i64 0)], [(0, .row R0 [])], 1000⟩, [(.int .i64), (.int .i64), (.sl R0)]⟩], fun (p : Int × Int × Int × List Int) => f_laws_markIntS.l0 N p.1 p.2.1 p.2.2.1 p.2.2.2⟩
noncomputable abbrev K28 : Cons := []
noncomputable abbrev L28 : List (Nat × Loops) := [(28, [(2, f_laws_markIntS.l0.c)])]
abbrev Q28 : List (Nat × List (Int × Nat) × Nat) := []
noncomputable abbrev X28 : Nat → Ctx := ctxOf tb K28 L28 Q28
theorem f_laws_markIntS.l0.ok : ∀ n p, (fun (p : Int × Int × Int × List Int) => f_laws_markIntS.l0 n p.1 p.2.1 p.2.2.1 p.2.2.2) p = iterD (roundOf fs X28 6 28 2 false f_laws_markIntS.l0.c) n p :=
  iter_of (l := fun n => fun (p : Int × Int × Int × List Int) => f_laws_markIntS.l0 n p.1 p.2.1 p.2.2.1 p.2.2.2) (fun _ => rfl) (fun n p => by kernel_rfl)
theorem E28 : ∀ x, funG fs X28 6 28 C28 x = C28.fn x := fun x => by kernel_rfl
theorem B28 : ConG Try.prog 28 C28 := ConG.make FS MIX TY (cons := K28) (L := L28) (ptrs := Q28) trivial trivial ⟨⟨⟨N, fun p => f_laws_markIntS.l0.ok N p⟩, trivial⟩, trivial⟩ rfl (by kernel_rfl) E28
theorem S28 : ConS Try.prog 28 C28 := B28.call (by kernel_rfl)
/-! laws.markFrame: function 36 -/
noncomputable def f_laws_markFrame (x0 : Int) (x1 : List Int) (x2 : Bool) (x3 : Int) : Option (Int × List Int) :=
  (f_laws_markIntS x1 x3).bind fun y90 =>
  (some (y90.2 : List Int)).bind fun z91 =>
  some (y90.1, z91)
noncomputable def C36 : Con := ⟨[(.I, true, [(.int .i64), (.sl R0), .bool]), (.B, false, [(.int .i64)])], [(false, [(.int .i64)])], [(.int .i64), (.sl R0), .bool, (.int .i64)], [(.int .i64), (.sl R0)], fun (p : Int × List Int × Bool × Int) => f_laws_markFrame p.1 p.2.1 p.2.2.1 p.2.2.2⟩
noncomputable abbrev K36 : Cons := [(28, C28)]
noncomputable abbrev L36 : List (Nat × Loops) := []
abbrev Q36 : List (Nat × List (Int × Nat) × Nat) := []
noncomputable abbrev X36 : Nat → Ctx := ctxOf tb K36 L36 Q36
theorem E36 : ∀ x, funG fs X36 6 36 C36 x = C36.fn x := fun x => by kernel_rfl
theorem B36 : ConG Try.prog 36 C36 := ConG.make FS MIX TY (cons := K36) (L := L36) (ptrs := Q36) ⟨S28, trivial⟩ trivial trivial rfl (by kernel_rfl) E36
theorem S36 : ConS Try.prog 36 C36 := B36.call (by kernel_rfl)
/-! laws.markMsg: function 20 -/
noncomputable def f_laws_markMsg (x0 : Int) (x1 : Int) (x2 : Bool) (x3 : List Int) (x4 : Int) : Option (Int × List Int) :=
  (f_laws_markIntS x3 x4).bind fun y92 =>
  (some (y92.2 : List Int)).bind fun z93 =>
  some (y92.1, z93)
noncomputable def C20 : Con := ⟨[(.I, true, [(.int .i64), (.int .i64), .bool, (.sl R0)]), (.B, false, [(.int .i64)])], [(false, [(.int .i64)])], [(.int .i64), (.int .i64), .bool, (.sl R0), (.int .i64)], [(.int .i64), (.sl R0)], fun (p : Int × Int × Bool × List Int × Int) => f_laws_markMsg p.1 p.2.1 p.2.2.1 p.2.2.2.1 p.2.2.2.2⟩
noncomputable abbrev K20 : Cons := [(28, C28)]
noncomputable abbrev L20 : List (Nat × Loops) := []
abbrev Q20 : List (Nat × List (Int × Nat) × Nat) := []
noncomputable abbrev X20 : Nat → Ctx := ctxOf tb K20 L20 Q20
theorem E20 : ∀ x, funG fs X20 6 20 C20 x = C20.fn x := fun x => by kernel_rfl
theorem B20 : ConG Try.prog 20 C20 := ConG.make FS MIX TY (cons := K20) (L := L20) (ptrs := Q20) ⟨S28, trivial⟩ trivial trivial rfl (by kernel_rfl) E20
theorem S20 : ConS Try.prog 20 C20 := B20.call (by kernel_rfl)
/-! laws.heldIntS: function 52 -/
noncomputable def f_laws_heldIntS.l0 : Nat → (List Int) → Int → Int → Int → Option ((Int) ⊕ (Int × Int))
  | 0, _, _, _, _ => none
  | n + 1, p94, p95, p96, p97 =>
    bif (decide (p97 < (p94.length : Int))) then
      bif ((decide ((0 : Int) ≤ p97)) && (decide (p97 < (p94.length : Int)))) then
      bif (!(decide ((p94.getD p97.toNat 0) = p95))) then
        some (.inl (-1))
      else
        f_laws_heldIntS.l0 n p94 (IntKind.wrap .i64 (p95 + (1 : Int))) p96 (IntKind.wrap .i64 (p97 + (1 : Int)))
      else none
    else
      some (.inr (p95, p96))
noncomputable def f_laws_heldIntS (x0 : List Int) (x1 : Int) : Option (Int) :=
  (f_laws_heldIntS.l0 N x0 x1 0 0).bind fun r98 =>
  cs r98 (fun a99 =>
    some a99) (fun b100 =>
    some b100.1)
noncomputable def C52 : Con := ⟨[(.B, false, [(.sl R0)]), (.B, false, [(.int .i64)])], [(false, [(.int .i64)])], [(.sl R0), (.int .i64)], [(.int .i64)], fun (p : List Int × Int) => f_laws_heldIntS p.1 p.2⟩
noncomputable def f_laws_heldIntS.l0.c : LoopCon := ⟨1000, 6, [0, 1, 4, 5], ⟨[(0, .bor none R0 []), (1, .int .i64 0), (4, .int .i64 0), (5, .int .i64 0)], [], 1000⟩, [(.sl R0), (.int .i64), (.int .i64), (.int .i64)], [⟨.ret, [4], ⟨[(4, .int .i64 0)], [], 1000⟩, [(.int .i64)]⟩, ⟨.exit 0, [1, 4], ⟨[(1, .int .i64 0), (4, .int .i64 0)], [], 1000⟩, [(.int .i64), (.int .i64)]⟩], fun (p : List Int × Int × Int × Int) => f_laws_heldIntS.l0 N p.1 p.2.1 p.2.2.1 p.2.2.2⟩
noncomputable abbrev K52 : Cons := []
noncomputable abbrev L52 : List (Nat × Loops) := [(52, [(2, f_laws_heldIntS.l0.c)])]
abbrev Q52 : List (Nat × List (Int × Nat) × Nat) := []
noncomputable abbrev X52 : Nat → Ctx := ctxOf tb K52 L52 Q52
theorem f_laws_heldIntS.l0.ok : ∀ n p, (fun (p : List Int × Int × Int × Int) => f_laws_heldIntS.l0 n p.1 p.2.1 p.2.2.1 p.2.2.2) p = iterD (roundOf fs X52 6 52 2 false f_laws_heldIntS.l0.c) n p :=
  iter_of (l := fun n => fun (p : List Int × Int × Int × Int) => f_laws_heldIntS.l0 n p.1 p.2.1 p.2.2.1 p.2.2.2) (fun _ => rfl) (fun n p => by kernel_rfl)
theorem E52 : ∀ x, funRun fs X52 6 52 C52 x = C52.fn x := fun x => by kernel_rfl
theorem B52 : ConB Try.prog 52 C52 := ConB.make FS MIX TY (cons := K52) (L := L52) (ptrs := Q52) trivial trivial ⟨⟨⟨N, fun p => f_laws_heldIntS.l0.ok N p⟩, trivial⟩, trivial⟩ rfl rfl E52
theorem S52 : ConS Try.prog 52 C52 := B52.call rfl
/-! laws.heldFrame: function 37 -/
noncomputable def f_laws_heldFrame (x0 : Int) (x1 : List Int) (x2 : Bool) (x3 : Int) : Option (Int) :=
  (f_laws_heldIntS x1 x3).bind fun y101 =>
  bif (decide (y101 < (0 : Int))) then
    some (-1)
  else
    some y101
noncomputable def C37 : Con := ⟨[(.B, true, [(.int .i64), (.sl R0), .bool]), (.B, false, [(.int .i64)])], [(false, [(.int .i64)])], [(.int .i64), (.sl R0), .bool, (.int .i64)], [(.int .i64)], fun (p : Int × List Int × Bool × Int) => f_laws_heldFrame p.1 p.2.1 p.2.2.1 p.2.2.2⟩
noncomputable abbrev K37 : Cons := [(52, C52)]
noncomputable abbrev L37 : List (Nat × Loops) := []
abbrev Q37 : List (Nat × List (Int × Nat) × Nat) := []
noncomputable abbrev X37 : Nat → Ctx := ctxOf tb K37 L37 Q37
theorem E37 : ∀ x, funRun fs X37 6 37 C37 x = C37.fn x := fun x => by kernel_rfl
theorem B37 : ConB Try.prog 37 C37 := ConB.make FS MIX TY (cons := K37) (L := L37) (ptrs := Q37) ⟨S52, trivial⟩ trivial trivial rfl rfl E37
theorem S37 : ConS Try.prog 37 C37 := B37.call rfl
/-! laws.heldMsg: function 38 -/
noncomputable def f_laws_heldMsg (x0 : Int) (x1 : Int) (x2 : Bool) (x3 : List Int) (x4 : Int) : Option (Int) :=
  (f_laws_heldIntS x3 x4).bind fun y102 =>
  bif (decide (y102 < (0 : Int))) then
    some (-1)
  else
    some y102
noncomputable def C38 : Con := ⟨[(.B, true, [(.int .i64), (.int .i64), .bool, (.sl R0)]), (.B, false, [(.int .i64)])], [(false, [(.int .i64)])], [(.int .i64), (.int .i64), .bool, (.sl R0), (.int .i64)], [(.int .i64)], fun (p : Int × Int × Bool × List Int × Int) => f_laws_heldMsg p.1 p.2.1 p.2.2.1 p.2.2.2.1 p.2.2.2.2⟩
noncomputable abbrev K38 : Cons := [(52, C52)]
noncomputable abbrev L38 : List (Nat × Loops) := []
abbrev Q38 : List (Nat × List (Int × Nat) × Nat) := []
noncomputable abbrev X38 : Nat → Ctx := ctxOf tb K38 L38 Q38
theorem E38 : ∀ x, funRun fs X38 6 38 C38 x = C38.fn x := fun x => by kernel_rfl
theorem B38 : ConB Try.prog 38 C38 := ConB.make FS MIX TY (cons := K38) (L := L38) (ptrs := Q38) ⟨S52, trivial⟩ trivial trivial rfl rfl E38
theorem S38 : ConS Try.prog 38 C38 := B38.call rfl
/-! laws.FnExactFrameHear: function 5 -/
noncomputable def f_laws_FnExactFrameHear (x0 : Int) (x1 : List Int) (x2 : Bool) (x3 : Int) (x4 : Int) (x5 : Bool) (x6 : List Int) : Option (Bool) :=
  (f_laws_szFrame x0 x1 x2 1048576).bind fun y103 =>
  bif (decide (y103 < (0 : Int))) then
    some true
  else
    (f_laws_szMsg x3 x4 x5 x6 y103).bind fun y104 =>
    bif (decide (y104 < (0 : Int))) then
      some true
    else
      (f_laws_toFrame x0 x1 x2).bind fun y105 =>
      (f_laws_toMsg x3 x4 x5 x6).bind fun y106 =>
      (f_spec_FrameHear y105.1 y105.2.1 y105.2.2 y106.1 y106.2.1 y106.2.2.1 y106.2.2.2).bind fun y107 =>
      (f_laws_toFrame x0 x1 x2).bind fun y108 =>
      (f_laws_toMsg x3 x4 x5 x6).bind fun y109 =>
      (f_impl_FrameHear y108.1 y108.2.1 y108.2.2 y109.1 y109.2.1 y109.2.2.1 y109.2.2.2).bind fun y110 =>
      (f_laws_eqFrame y110.1 y110.2.1 y110.2.2.1 y107.1 y107.2.1 y107.2.2.1).bind fun y111 =>
      bif (!y111) then
        some false
      else
        (f_laws_eqMsg y110.2.2.2.1 y110.2.2.2.2.1 y110.2.2.2.2.2.1 y110.2.2.2.2.2.2.1 y107.2.2.2.1 y107.2.2.2.2.1 y107.2.2.2.2.2.1 y107.2.2.2.2.2.2.1).bind fun y112 =>
        bif (!y112) then
          some false
        else
          bif (!(y110.2.2.2.2.2.2.2 == y107.2.2.2.2.2.2.2)) then
            some false
          else
            (f_laws_toFrame x0 x1 x2).bind fun y113 =>
            (f_laws_eqFrame y108.1 y108.2.1 y108.2.2 y113.1 y113.2.1 y113.2.2).bind fun y114 =>
            bif (!y114) then
              some false
            else
              (f_laws_toMsg x3 x4 x5 x6).bind fun y115 =>
              (f_laws_eqMsg y109.1 y109.2.1 y109.2.2.1 y109.2.2.2 y115.1 y115.2.1 y115.2.2.1 y115.2.2.2).bind fun y116 =>
              bif (!y116) then
                some false
              else
                (f_laws_markFrame y108.1 y108.2.1 y108.2.2 1).bind fun y117 =>
                (some (y117.2 : List Int)).bind fun z118 =>
                (f_laws_markMsg y109.1 y109.2.1 y109.2.2.1 y109.2.2.2 y117.1).bind fun y119 =>
                (some (y119.2 : List Int)).bind fun z120 =>
                bif (decide (y119.1 < (0 : Int))) then
                  some false
                else
                  (f_laws_eqFrame y110.1 y110.2.1 y110.2.2.1 y107.1 y107.2.1 y107.2.2.1).bind fun y121 =>
                  bif (!y121) then
                    some false
                  else
                    (f_laws_eqMsg y110.2.2.2.1 y110.2.2.2.2.1 y110.2.2.2.2.2.1 y110.2.2.2.2.2.2.1 y107.2.2.2.1 y107.2.2.2.2.1 y107.2.2.2.2.2.1 y107.2.2.2.2.2.2.1).bind fun y122 =>
                    bif (!y122) then
                      some false
                    else
                      bif (!(y110.2.2.2.2.2.2.2 == y107.2.2.2.2.2.2.2)) then
                        some false
                      else
                        (f_laws_markFrame y110.1 y110.2.1 y110.2.2.1 1).bind fun y123 =>
                        (some (y123.2 : List Int)).bind fun z124 =>
                        (f_laws_markMsg y110.2.2.2.1 y110.2.2.2.2.1 y110.2.2.2.2.2.1 y110.2.2.2.2.2.2.1 y123.1).bind fun y125 =>
                        (some (y125.2 : List Int)).bind fun z126 =>
                        (f_laws_heldFrame y110.1 z124 y110.2.2.1 1).bind fun y127 =>
                        bif (decide (y127 < (0 : Int))) then
                          some false
                        else
                          (f_laws_heldMsg y110.2.2.2.1 y110.2.2.2.2.1 y110.2.2.2.2.2.1 z126 y127).bind fun y128 =>
                          bif (decide (y128 < (0 : Int))) then
                            some false
                          else
                            bif (!(decide (y128 = y125.1))) then
                              some false
                            else
                              (f_laws_toFrame x0 x1 x2).bind fun y129 =>
                              (f_laws_toMsg x3 x4 x5 x6).bind fun y130 =>
                              (f_impl_FrameHear y129.1 y129.2.1 y129.2.2 y130.1 y130.2.1 y130.2.2.1 y130.2.2.2).bind fun y131 =>
                              (f_laws_eqFrame y131.1 y131.2.1 y131.2.2.1 y107.1 y107.2.1 y107.2.2.1).bind fun y132 =>
                              bif (!y132) then
                                some false
                              else
                                (f_laws_eqMsg y131.2.2.2.1 y131.2.2.2.2.1 y131.2.2.2.2.2.1 y131.2.2.2.2.2.2.1 y107.2.2.2.1 y107.2.2.2.2.1 y107.2.2.2.2.2.1 y107.2.2.2.2.2.2.1).bind fun y133 =>
                                bif (!y133) then
                                  some false
                                else
                                  bif (!(y131.2.2.2.2.2.2.2 == y107.2.2.2.2.2.2.2)) then
                                    some false
                                  else
                                    (f_laws_heldFrame y110.1 z124 y110.2.2.1 1).bind fun y134 =>
                                    bif (decide (y134 < (0 : Int))) then
                                      some false
                                    else
                                      (f_laws_heldMsg y110.2.2.2.1 y110.2.2.2.2.1 y110.2.2.2.2.2.1 z126 y134).bind fun y135 =>
                                      bif (decide (y135 < (0 : Int))) then
                                        some false
                                      else
                                        bif (!(decide (y135 = y125.1))) then
                                          some false
                                        else
                                          some true
noncomputable def C5 : Con := ⟨[(.B, true, [(.int .i64), (.sl R0), .bool]), (.B, true, [(.int .i64), (.int .i64), .bool, (.sl R0)])], [(false, [.bool])], [(.int .i64), (.sl R0), .bool, (.int .i64), (.int .i64), .bool, (.sl R0)], [.bool], fun (p : Int × List Int × Bool × Int × Int × Bool × List Int) => f_laws_FnExactFrameHear p.1 p.2.1 p.2.2.1 p.2.2.2.1 p.2.2.2.2.1 p.2.2.2.2.2.1 p.2.2.2.2.2.2⟩
noncomputable abbrev K5 : Cons := [(14, C14), (16, C16), (19, C19), (20, C20), (31, C31), (32, C32), (33, C33), (34, C34), (35, C35), (36, C36), (37, C37), (38, C38)]
noncomputable abbrev L5 : List (Nat × Loops) := []
abbrev Q5 : List (Nat × List (Int × Nat) × Nat) := []
noncomputable abbrev X5 : Nat → Ctx := ctxOf tb K5 L5 Q5
theorem E5 : ∀ x, funRun fs X5 6 5 C5 x = C5.fn x := fun x => by kernel_rfl
theorem B5 : ConB Try.prog 5 C5 := ConB.make FS MIX TY (cons := K5) (L := L5) (ptrs := Q5) ⟨S14, S16, S19, S20, S31, S32, S33, S34, S35, S36, S37, S38, trivial⟩ trivial trivial rfl rfl E5
theorem S5 : ConS Try.prog 5 C5 := B5.call rfl
/-- What is left: the plain law. -/
def Pure : Prop := ∀ x : Tup [(.int .i64), (.sl R0), .bool, (.int .i64), (.int .i64), .bool, (.sl R0)], WfT [(.int .i64), (.sl R0), .bool, (.int .i64), (.int .i64), .bool, (.sl R0)] x → C5.fn x = some (true : Bool)
end
end Go.Abs
