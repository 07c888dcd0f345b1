import Derived.Test.YtimpkielhcgfdaaProg
import Derived.Test.YtimpkielhcgfdaaAbsD
import Derived.KernelRfl
namespace Go.Abs
open Go.Proofs
set_option linter.unusedVariables false
set_option maxRecDepth 100000
noncomputable section
abbrev N : Nat := 1152921504606846976
abbrev R0 : RT := .one (.int .i64)
abbrev R1 : RT := .cons (.sl R0) (.cons (.int .i64) (.one (.int .i64)))
noncomputable def tb : Tb := [(0, ⟨false, [], [], 0, 0⟩),
  (3, ⟨false, [(.int .i64)], [], 0, 8⟩),
  (4, ⟨false, [.bool], [], 0, 1⟩),
  (5, ⟨false, [(.int .u8)], [], 0, 1⟩),
  (9, ⟨false, [.str], [], 0, 16⟩),
  (22, ⟨false, [(.sl R0)], [], 3, 24⟩),
  (23, ⟨false, [(.sl R1)], [], 138, 24⟩),
  (25, ⟨false, [(.sl R1)], [], 139, 24⟩),
  (26, ⟨false, [], [], 0, 0⟩),
  (74, ⟨true, [(.int .i64), (.int .i64), (.int .i64), (.int .i64), (.int .i64)], [(0, 3), (1, 3), (2, 3), (3, 3), (4, 3)], 0, 40⟩),
  (75, ⟨false, [], [], 0, 0⟩),
  (138, ⟨true, [(.sl R0), (.int .i64), (.int .i64)], [(0, 22), (1, 3), (2, 3)], 0, 40⟩),
  (139, ⟨true, [(.sl R0), (.int .i64), (.int .i64)], [(0, 22), (1, 3), (2, 3)], 0, 40⟩),
  (142, ⟨false, [], [], 0, 0⟩),
  (156, ⟨false, [], [], 0, 8⟩),
  (197, ⟨false, [], [], 0, 0⟩),
  (207, ⟨false, [], [], 0, 0⟩),
  (209, ⟨false, [], [], 0, 8⟩),
  (223, ⟨false, [], [], 0, 8⟩)]
noncomputable def fsL : List (Nat × Func) := [(148, Try.f148), (95, Try.f95), (15, Try.f15), (17, Try.f17), (99, Try.f99), (18, Try.f18), (96, Try.f96), (97, Try.f97), (126, Try.f126), (170, Try.f170), (186, Try.f186), (187, Try.f187), (131, Try.f131), (133, Try.f133), (202, Try.f202), (171, Try.f171), (203, Try.f203), (172, Try.f172), (98, Try.f98), (16, Try.f16), (100, Try.f100), (173, Try.f173), (101, Try.f101), (103, Try.f103), (137, Try.f137), (180, Try.f180), (207, Try.f207), (179, Try.f179), (120, Try.f120), (102, Try.f102), (128, Try.f128), (174, Try.f174), (104, Try.f104), (184, Try.f184), (185, Try.f185), (130, Try.f130), (63, Try.f63), (204, Try.f204), (205, Try.f205), (175, Try.f175), (206, Try.f206), (176, Try.f176), (105, Try.f105), (19, Try.f19), (20, Try.f20), (106, Try.f106), (21, Try.f21), (22, Try.f22), (23, Try.f23), (24, Try.f24), (25, Try.f25), (3, Try.f3)]
noncomputable def fs : Nat → Option Func := getF fsL
theorem MIX : Try.prog.follows .mixedOrders = true := by kernel_rfl
theorem TY : tyCheck Try.prog tb = true := by kernel_rfl
theorem CAT : catCheck tb = true := by kernel_rfl
theorem FSP : FsP Try.prog fsL := ⟨Try.func148, Try.func95, Try.func15, Try.func17, Try.func99, Try.func18, Try.func96, Try.func97, Try.func126, Try.func170, Try.func186, Try.func187, Try.func131, Try.func133, Try.func202, Try.func171, Try.func203, Try.func172, Try.func98, Try.func16, Try.func100, Try.func173, Try.func101, Try.func103, Try.func137, Try.func180, Try.func207, Try.func179, Try.func120, Try.func102, Try.func128, Try.func174, Try.func104, Try.func184, Try.func185, Try.func130, Try.func63, Try.func204, Try.func205, Try.func175, Try.func206, Try.func176, Try.func105, Try.func19, Try.func20, Try.func106, Try.func21, Try.func22, Try.func23, Try.func24, Try.func25, Try.func3, trivial⟩
theorem FSC : (fsL.all fun p => fnChk p.2) = true := by kernel_rfl
theorem FS : FsS Try.prog fs := FsS.of FSP FSC
theorem PT185 : PtrS Try.prog 185 [(82, 1), (65, 2), (66, 3)] 4 := PtrS.make FS MIX TY (cons := []) (L := []) (ptrs := []) trivial trivial trivial rfl (fun l => by kernel_rfl)
/-! laws.szIntS: function 148 -/
noncomputable def f_laws_szIntS (x0 : List Int) (x1 : Int) : Option (Int) :=
  bif (decide ((IntKind.wrap .i64 (x1 - (x0.length : Int))) < (0 : Int))) then
    some (-1)
  else
    some (IntKind.wrap .i64 (x1 - (x0.length : Int)))
noncomputable def C148 : Con := ⟨[(.B, false, [(.sl R0)]), (.B, false, [(.int .i64)])], [(false, [(.int .i64)])], [(.sl R0), (.int .i64)], [(.int .i64)], fun (p : List Int × Int) => f_laws_szIntS p.1 p.2⟩
noncomputable abbrev K148 : Cons := []
noncomputable abbrev L148 : List (Nat × Loops) := []
abbrev Q148 : List (Nat × List (Int × Nat) × Nat) := []
noncomputable abbrev X148 : Nat → Ctx := ctxOf tb K148 L148 Q148
theorem E148 : ∀ x, funRun fs X148 6 148 C148 x = C148.fn x := fun x => by kernel_rfl
theorem B148 : ConB Try.prog 148 C148 := ConB.make FS MIX TY (cons := K148) (L := L148) (ptrs := Q148) trivial trivial trivial rfl rfl E148
theorem S148 : ConS Try.prog 148 C148 := B148.call rfl
/-! laws.szHart: function 95 -/
noncomputable def f_laws_szHart (x0 : List Int) (x1 : Int) (x2 : Int) (x3 : Int) : Option (Int) :=
  (f_laws_szIntS x0 x3).bind fun y1 =>
  bif (decide (y1 < (0 : Int))) then
    some (-1)
  else
    some y1
noncomputable def C95 : Con := ⟨[(.B, true, [(.sl R0), (.int .i64), (.int .i64)]), (.B, false, [(.int .i64)])], [(false, [(.int .i64)])], [(.sl R0), (.int .i64), (.int .i64), (.int .i64)], [(.int .i64)], fun (p : List Int × Int × Int × Int) => f_laws_szHart p.1 p.2.1 p.2.2.1 p.2.2.2⟩
noncomputable abbrev K95 : Cons := [(148, C148)]
noncomputable abbrev L95 : List (Nat × Loops) := []
abbrev Q95 : List (Nat × List (Int × Nat) × Nat) := []
noncomputable abbrev X95 : Nat → Ctx := ctxOf tb K95 L95 Q95
theorem E95 : ∀ x, funRun fs X95 6 95 C95 x = C95.fn x := fun x => by kernel_rfl
theorem B95 : ConB Try.prog 95 C95 := ConB.make FS MIX TY (cons := K95) (L := L95) (ptrs := Q95) ⟨S148, trivial⟩ trivial trivial rfl rfl E95
theorem S95 : ConS Try.prog 95 C95 := B95.call rfl
/-! laws.szHartS: function 15 -/
noncomputable def f_laws_szHartS.l0 : Nat → (List (List Int × Int × Int)) → Int → Int → Int → Option ((Int) ⊕ (Int × Int))
  | 0, _, _, _, _ => none
  | n + 1, p2, p3, p4, p5 =>
    bif (decide (p5 < (p2.length : Int))) then
      bif ((decide ((0 : Int) ≤ p5)) && (decide (p5 < (p2.length : Int)))) then
      (f_laws_szHart ((p2.getD p5.toNat ([], 0, 0)).1) ((p2.getD p5.toNat ([], 0, 0)).2.1) ((p2.getD p5.toNat ([], 0, 0)).2.2) p3).bind fun y6 =>
      bif (decide (y6 < (0 : Int))) then
        some (.inl (-1))
      else
        f_laws_szHartS.l0 n p2 y6 p4 (IntKind.wrap .i64 (p5 + (1 : Int)))
      else none
    else
      some (.inr (p3, p4))
noncomputable def f_laws_szHartS (x0 : List (List Int × Int × Int)) (x1 : Int) : Option (Int) :=
  bif (decide ((IntKind.wrap .i64 (x1 - (x0.length : Int))) < (0 : Int))) then
    some (-1)
  else
    (f_laws_szHartS.l0 N x0 (IntKind.wrap .i64 (x1 - (x0.length : Int))) 0 0).bind fun r7 =>
    cs r7 (fun a8 =>
      some a8) (fun b9 =>
      some b9.1)
noncomputable def C15 : Con := ⟨[(.B, false, [(.sl R1)]), (.B, false, [(.int .i64)])], [(false, [(.int .i64)])], [(.sl R1), (.int .i64)], [(.int .i64)], fun (p : (List (List Int × Int × Int)) × Int) => f_laws_szHartS p.1 p.2⟩
noncomputable def f_laws_szHartS.l0.c : LoopCon := ⟨1000, 6, [0, 1, 4, 5], ⟨[(0, .bor none R1 []), (1, .int .i64 0), (4, .int .i64 0), (5, .int .i64 0)], [], 1000⟩, [(.sl R1), (.int .i64), (.int .i64), (.int .i64)], [⟨.ret, [4], ⟨[(4, .int .i64 0)], [], 1000⟩, [(.int .i64)]⟩, ⟨.exit 0, [1, 4], ⟨[(1, .int .i64 0), (4, .int .i64 0)], [], 1000⟩, [(.int .i64), (.int .i64)]⟩], fun (p : (List (List Int × Int × Int)) × Int × Int × Int) => f_laws_szHartS.l0 N p.1 p.2.1 p.2.2.1 p.2.2.2⟩
noncomputable abbrev K15 : Cons := [(95, C95)]
noncomputable abbrev L15 : List (Nat × Loops) := [(15, [(5, f_laws_szHartS.l0.c)])]
abbrev Q15 : List (Nat × List (Int × Nat) × Nat) := []
noncomputable abbrev X15 : Nat → Ctx := ctxOf tb K15 L15 Q15
theorem f_laws_szHartS.l0.ok : ∀ n p, (fun (p : (List (List Int × Int × Int)) × Int × Int × Int) => f_laws_szHartS.l0 n p.1 p.2.1 p.2.2.1 p.2.2.2) p = iterD (roundOf fs X15 6 15 5 false f_laws_szHartS.l0.c) n p :=
  iter_of (l := fun n => fun (p : (List (List Int × Int × Int)) × Int × Int × Int) => f_laws_szHartS.l0 n p.1 p.2.1 p.2.2.1 p.2.2.2) (fun _ => rfl) (fun n p => by kernel_rfl)
theorem E15 : ∀ x, funRun fs X15 6 15 C15 x = C15.fn x := fun x => by kernel_rfl
theorem B15 : ConB Try.prog 15 C15 := ConB.make FS MIX TY (cons := K15) (L := L15) (ptrs := Q15) ⟨S95, trivial⟩ trivial ⟨⟨⟨N, fun p => f_laws_szHartS.l0.ok N p⟩, trivial⟩, trivial⟩ rfl rfl E15
theorem S15 : ConS Try.prog 15 C15 := B15.call rfl
/-! laws.toIntS: function 17 -/
noncomputable def f_laws_toIntS.l0 : Nat → (List Int) → Int → (List Int) → Option (List Int)
  | 0, _, _, _ => none
  | n + 1, p10, p11, p12 =>
    bif (decide (p11 < (p10.length : Int))) then
      bif ((decide ((0 : Int) ≤ p11)) && (decide (p11 < (p10.length : Int)))) then
      bif ((decide ((0 : Int) ≤ p11)) && (decide (p11 < (p12.length : Int)))) then
      (some ((p12.set p11.toNat (p10.getD p11.toNat 0)) : List Int)).bind fun z13 =>
      f_laws_toIntS.l0 n p10 (IntKind.wrap .i64 (p11 + (1 : Int))) z13
      else none
      else none
    else
      some p12
noncomputable def f_laws_toIntS (x0 : List Int) : Option (List Int) :=
  bif (decide ((0 : Int) ≤ (x0.length : Int)) && Nat.ble (x0.length : Int).toNat 17592186044416) then
  (f_laws_toIntS.l0 N x0 0 (List.replicate (x0.length : Int).toNat 0)).bind fun r14 =>
  some r14
  else none
noncomputable def C17 : Con := ⟨[(.B, false, [(.sl R0)])], [(false, [(.sl R0)])], [(.sl R0)], [(.sl R0)], fun (p : List Int) => f_laws_toIntS p⟩
noncomputable def f_laws_toIntS.l0.c : LoopCon := ⟨1000, 6, [0, 2, 3, 4], ⟨[(0, .bor none R0 []), (2, .nil (some R0)), (3, .ref 1000 [] none), (4, .int .i64 0)], [(1000, .row R0 [])], 1001⟩, [(.sl R0), (.int .i64), (.sl R0)], [⟨.exit 0, [2, 3], ⟨[(2, .nil (some R0)), (3, .ref 1000 [] none)], [(1000, .row R0 [])], 1001⟩, [(.sl R0)]⟩], fun (p : List Int × Int × List Int) => f_laws_toIntS.l0 N p.1 p.2.1 p.2.2⟩
noncomputable abbrev K17 : Cons := []
noncomputable abbrev L17 : List (Nat × Loops) := [(17, [(3, f_laws_toIntS.l0.c)])]
abbrev Q17 : List (Nat × List (Int × Nat) × Nat) := []
noncomputable abbrev X17 : Nat → Ctx := ctxOf tb K17 L17 Q17
theorem f_laws_toIntS.l0.ok : ∀ n p, (fun (p : List Int × Int × List Int) => f_laws_toIntS.l0 n p.1 p.2.1 p.2.2) p = iterD (roundOf fs X17 6 17 3 false f_laws_toIntS.l0.c) n p :=
  iter_of (l := fun n => fun (p : List Int × Int × List Int) => f_laws_toIntS.l0 n p.1 p.2.1 p.2.2) (fun _ => rfl) (fun n p => by kernel_rfl)
theorem E17 : ∀ x, funRun fs X17 6 17 C17 x = C17.fn x := fun x => by kernel_rfl
theorem B17 : ConB Try.prog 17 C17 := ConB.make FS MIX TY (cons := K17) (L := L17) (ptrs := Q17) trivial trivial ⟨⟨⟨N, fun p => f_laws_toIntS.l0.ok N p⟩, trivial⟩, trivial⟩ rfl rfl E17
theorem S17 : ConS Try.prog 17 C17 := B17.call rfl
/-! laws.toHart: function 99 -/
noncomputable def f_laws_toHart (x0 : List Int) (x1 : Int) (x2 : Int) : Option (List Int × Int × Int) :=
  (f_laws_toIntS x0).bind fun y15 =>
  some (y15, x1, x2)
noncomputable def C99 : Con := ⟨[(.B, true, [(.sl R0), (.int .i64), (.int .i64)])], [(true, [(.sl R0), (.int .i64), (.int .i64)])], [(.sl R0), (.int .i64), (.int .i64)], [(.sl R0), (.int .i64), (.int .i64)], fun (p : List Int × Int × Int) => f_laws_toHart p.1 p.2.1 p.2.2⟩
noncomputable abbrev K99 : Cons := [(17, C17)]
noncomputable abbrev L99 : List (Nat × Loops) := []
abbrev Q99 : List (Nat × List (Int × Nat) × Nat) := []
noncomputable abbrev X99 : Nat → Ctx := ctxOf tb K99 L99 Q99
theorem E99 : ∀ x, funRun fs X99 6 99 C99 x = C99.fn x := fun x => by kernel_rfl
theorem B99 : ConB Try.prog 99 C99 := ConB.make FS MIX TY (cons := K99) (L := L99) (ptrs := Q99) ⟨S17, trivial⟩ trivial trivial rfl rfl E99
theorem S99 : ConS Try.prog 99 C99 := B99.call rfl
/-! laws.toHartS: function 18 -/
noncomputable def f_laws_toHartS.l0 : Nat → (List (List Int × Int × Int)) → Int → (List (List Int × Int × Int)) → Option ((List (List Int × Int × Int)))
  | 0, _, _, _ => none
  | n + 1, p16, p17, p18 =>
    bif (decide (p17 < (p16.length : Int))) then
      bif ((decide ((0 : Int) ≤ p17)) && (decide (p17 < (p16.length : Int)))) then
      (f_laws_toHart ((p16.getD p17.toNat ([], 0, 0)).1) ((p16.getD p17.toNat ([], 0, 0)).2.1) ((p16.getD p17.toNat ([], 0, 0)).2.2)).bind fun y19 =>
      bif ((decide ((0 : Int) ≤ p17)) && (decide (p17 < (p18.length : Int)))) then
      (some ((p18.set p17.toNat (y19.1, y19.2.1, y19.2.2)) : List (List Int × Int × Int))).bind fun z20 =>
      f_laws_toHartS.l0 n p16 (IntKind.wrap .i64 (p17 + (1 : Int))) z20
      else none
      else none
    else
      some p18
noncomputable def f_laws_toHartS (x0 : List (List Int × Int × Int)) : Option ((List (List Int × Int × Int))) :=
  bif (decide ((0 : Int) ≤ (x0.length : Int)) && Nat.ble (x0.length : Int).toNat 3518437208883) then
  (f_laws_toHartS.l0 N x0 0 (List.replicate (x0.length : Int).toNat ([], 0, 0))).bind fun r21 =>
  some r21
  else none
noncomputable def C18 : Con := ⟨[(.B, false, [(.sl R1)])], [(false, [(.sl R1)])], [(.sl R1)], [(.sl R1)], fun (p : (List (List Int × Int × Int))) => f_laws_toHartS p⟩
noncomputable def f_laws_toHartS.l0.c : LoopCon := ⟨1000, 6, [0, 2, 3, 4], ⟨[(0, .bor none R1 []), (2, .nil (some R1)), (3, .ref 1000 [] none), (4, .int .i64 0)], [(1000, .row R1 [])], 1001⟩, [(.sl R1), (.int .i64), (.sl R1)], [⟨.exit 0, [2, 3], ⟨[(2, .nil (some R1)), (3, .ref 1000 [] none)], [(1000, .row R1 [])], 1001⟩, [(.sl R1)]⟩], fun (p : (List (List Int × Int × Int)) × Int × (List (List Int × Int × Int))) => f_laws_toHartS.l0 N p.1 p.2.1 p.2.2⟩
noncomputable abbrev K18 : Cons := [(99, C99)]
noncomputable abbrev L18 : List (Nat × Loops) := [(18, [(3, f_laws_toHartS.l0.c)])]
abbrev Q18 : List (Nat × List (Int × Nat) × Nat) := []
noncomputable abbrev X18 : Nat → Ctx := ctxOf tb K18 L18 Q18
theorem f_laws_toHartS.l0.ok : ∀ n p, (fun (p : (List (List Int × Int × Int)) × Int × (List (List Int × Int × Int))) => f_laws_toHartS.l0 n p.1 p.2.1 p.2.2) p = iterD (roundOf fs X18 6 18 3 false f_laws_toHartS.l0.c) n p :=
  iter_of (l := fun n => fun (p : (List (List Int × Int × Int)) × Int × (List (List Int × Int × Int))) => f_laws_toHartS.l0 n p.1 p.2.1 p.2.2) (fun _ => rfl) (fun n p => by kernel_rfl)
theorem E18 : ∀ x, funRun fs X18 6 18 C18 x = C18.fn x := fun x => by kernel_rfl
theorem B18 : ConB Try.prog 18 C18 := ConB.make FS MIX TY (cons := K18) (L := L18) (ptrs := Q18) ⟨S99, trivial⟩ trivial ⟨⟨⟨N, fun p => f_laws_toHartS.l0.ok N p⟩, trivial⟩, trivial⟩ rfl rfl E18
theorem S18 : ConS Try.prog 18 C18 := B18.call rfl
/-! spec.l9Copy: function 96 -/
noncomputable def f_spec_l9Copy (x0 : List Int) (x1 : Int) (x2 : Int) : Option (List Int × Int × Int) :=
  bif (Nat.blt (([] : List Int).length + x0.length) 17592186044416) then
  (some ((([] : List Int) ++ x0) : List Int)).bind fun z22 =>
  some (z22, x1, x2)
  else none
noncomputable def C96 : Con := ⟨[(.B, true, [(.sl R0), (.int .i64), (.int .i64)])], [(true, [(.sl R0), (.int .i64), (.int .i64)])], [(.sl R0), (.int .i64), (.int .i64)], [(.sl R0), (.int .i64), (.int .i64)], fun (p : List Int × Int × Int) => f_spec_l9Copy p.1 p.2.1 p.2.2⟩
noncomputable abbrev K96 : Cons := []
noncomputable abbrev L96 : List (Nat × Loops) := []
abbrev Q96 : List (Nat × List (Int × Nat) × Nat) := []
noncomputable abbrev X96 : Nat → Ctx := ctxOf tb K96 L96 Q96
theorem E96 : ∀ x, funRun fs X96 6 96 C96 x = C96.fn x := fun x => by kernel_rfl
theorem B96 : ConB Try.prog 96 C96 := ConB.make FS MIX TY (cons := K96) (L := L96) (ptrs := Q96) trivial trivial trivial rfl rfl E96
theorem S96 : ConS Try.prog 96 C96 := B96.call rfl
/-! spec.l1In: function 97 -/
noncomputable def f_spec_l1In (x0 : Int) (x1 : Int) (x2 : Int) : Option (Bool) :=
  bif (decide (x1 ≤ x0)) then
    some (decide (x0 ≤ x2))
  else
    some false
noncomputable def C97 : Con := ⟨[(.B, false, [(.int .i64)]), (.B, false, [(.int .i64)]), (.B, false, [(.int .i64)])], [(false, [.bool])], [(.int .i64), (.int .i64), (.int .i64)], [.bool], fun (p : Int × Int × Int) => f_spec_l1In p.1 p.2.1 p.2.2⟩
noncomputable abbrev K97 : Cons := []
noncomputable abbrev L97 : List (Nat × Loops) := []
abbrev Q97 : List (Nat × List (Int × Nat) × Nat) := []
noncomputable abbrev X97 : Nat → Ctx := ctxOf tb K97 L97 Q97
theorem E97 : ∀ x, funRun fs X97 6 97 C97 x = C97.fn x := fun x => by kernel_rfl
theorem B97 : ConB Try.prog 97 C97 := ConB.make FS MIX TY (cons := K97) (L := L97) (ptrs := Q97) trivial trivial trivial rfl rfl E97
theorem S97 : ConS Try.prog 97 C97 := B97.call rfl
/-! spec.l1Words: function 126 -/
noncomputable def f_spec_l1Words.l0 : Nat → (List Int) → Int → Bool → Int → Option ((Bool) ⊕ (List Int × Int × Bool))
  | 0, _, _, _, _ => none
  | n + 1, p23, p24, p25, p26 =>
    bif (decide (p26 < (p23.length : Int))) then
      bif ((decide ((0 : Int) ≤ p26)) && (decide (p26 < (p23.length : Int)))) then
      (f_spec_l1In (p23.getD p26.toNat 0) 0 65535).bind fun y27 =>
      bif (!y27) then
        some (.inl false)
      else
        f_spec_l1Words.l0 n p23 p24 p25 (IntKind.wrap .i64 (p26 + (1 : Int)))
      else none
    else
      some (.inr (p23, p24, p25))
noncomputable def f_spec_l1Words (x0 : List Int) (x1 : Int) : Option (Bool) :=
  (f_spec_l1Words.l0 N x0 x1 false 0).bind fun r28 =>
  cs r28 (fun a29 =>
    some a29) (fun b30 =>
    some (decide ((b30.1.length : Int) = b30.2.1)))
noncomputable def C126 : Con := ⟨[(.B, false, [(.sl R0)]), (.B, false, [(.int .i64)])], [(false, [.bool])], [(.sl R0), (.int .i64)], [.bool], fun (p : List Int × Int) => f_spec_l1Words p.1 p.2⟩
noncomputable def f_spec_l1Words.l0.c : LoopCon := ⟨1000, 6, [0, 1, 4, 5], ⟨[(0, .bor none R0 []), (1, .int .i64 0), (4, .bool false), (5, .int .i64 0)], [], 1000⟩, [(.sl R0), (.int .i64), .bool, (.int .i64)], [⟨.ret, [4], ⟨[(4, .bool false)], [], 1000⟩, [.bool]⟩, ⟨.exit 0, [0, 1, 4], ⟨[(0, .bor none R0 []), (1, .int .i64 0), (4, .bool false)], [], 1000⟩, [(.sl R0), (.int .i64), .bool]⟩], fun (p : List Int × Int × Bool × Int) => f_spec_l1Words.l0 N p.1 p.2.1 p.2.2.1 p.2.2.2⟩
noncomputable abbrev K126 : Cons := [(97, C97)]
noncomputable abbrev L126 : List (Nat × Loops) := [(126, [(2, f_spec_l1Words.l0.c)])]
abbrev Q126 : List (Nat × List (Int × Nat) × Nat) := []
noncomputable abbrev X126 : Nat → Ctx := ctxOf tb K126 L126 Q126
theorem f_spec_l1Words.l0.ok : ∀ n p, (fun (p : List Int × Int × Bool × Int) => f_spec_l1Words.l0 n p.1 p.2.1 p.2.2.1 p.2.2.2) p = iterD (roundOf fs X126 6 126 2 false f_spec_l1Words.l0.c) n p :=
  iter_of (l := fun n => fun (p : List Int × Int × Bool × Int) => f_spec_l1Words.l0 n p.1 p.2.1 p.2.2.1 p.2.2.2) (fun _ => rfl) (fun n p => by kernel_rfl)
theorem E126 : ∀ x, funRun fs X126 6 126 C126 x = C126.fn x := fun x => by kernel_rfl
theorem B126 : ConB Try.prog 126 C126 := ConB.make FS MIX TY (cons := K126) (L := L126) (ptrs := Q126) ⟨S97, trivial⟩ trivial ⟨⟨⟨N, fun p => f_spec_l1Words.l0.ok N p⟩, trivial⟩, trivial⟩ rfl rfl E126
theorem S126 : ConS Try.prog 126 C126 := B126.call rfl
/-! spec.HartOk: function 170 -/
noncomputable def f_spec_HartOk (x0 : List Int) (x1 : Int) (x2 : Int) : Option (Bool) :=
  (f_spec_l1Words x0 4).bind fun y31 =>
  bif y31 then
    (f_spec_l1In x1 0 23).bind fun y32 =>
    bif y32 then
      (f_spec_l1In x2 0 2).bind fun y33 =>
      some y33
    else
      some false
  else
    some false
noncomputable def C170 : Con := ⟨[(.B, true, [(.sl R0), (.int .i64), (.int .i64)])], [(false, [.bool])], [(.sl R0), (.int .i64), (.int .i64)], [.bool], fun (p : List Int × Int × Int) => f_spec_HartOk p.1 p.2.1 p.2.2⟩
noncomputable abbrev K170 : Cons := [(97, C97), (126, C126)]
noncomputable abbrev L170 : List (Nat × Loops) := []
abbrev Q170 : List (Nat × List (Int × Nat) × Nat) := []
noncomputable abbrev X170 : Nat → Ctx := ctxOf tb K170 L170 Q170
theorem E170 : ∀ x, funRun fs X170 6 170 C170 x = C170.fn x := fun x => by kernel_rfl
theorem B170 : ConB Try.prog 170 C170 := ConB.make FS MIX TY (cons := K170) (L := L170) (ptrs := Q170) ⟨S97, S126, trivial⟩ trivial trivial rfl rfl E170
theorem S170 : ConS Try.prog 170 C170 := B170.call rfl
/-! spec.l8Has: function 186 -/
noncomputable def f_spec_l8Has (x0 : Int) : Option (Int) :=
  (f_spec_l1In x0 1 10).bind fun y34 =>
  bif (!y34) then
    some 0
  else
    bif ((decide ((0 : Int) ≤ x0)) && (decide (x0 < (([0, 9, 7, 11, 11, 14, 15, 10, 8, 0, 7] : List Int).length : Int)))) then
    some (([0, 9, 7, 11, 11, 14, 15, 10, 8, 0, 7] : List Int).getD x0.toNat 0)
    else none
noncomputable def C186 : Con := ⟨[(.B, false, [(.int .i64)])], [(false, [(.int .i64)])], [(.int .i64)], [(.int .i64)], fun (p : Int) => f_spec_l8Has p⟩
noncomputable abbrev K186 : Cons := [(97, C97)]
noncomputable abbrev L186 : List (Nat × Loops) := []
abbrev Q186 : List (Nat × List (Int × Nat) × Nat) := []
noncomputable abbrev X186 : Nat → Ctx := ctxOf tb K186 L186 Q186
theorem E186 : ∀ x, funRun fs X186 6 186 C186 x = C186.fn x := fun x => by kernel_rfl
theorem B186 : ConB Try.prog 186 C186 := ConB.make FS MIX TY (cons := K186) (L := L186) (ptrs := Q186) ⟨S97, trivial⟩ trivial trivial rfl rfl E186
theorem S186 : ConS Try.prog 186 C186 := B186.call rfl
/-! spec.l8Field: function 187 -/
noncomputable def f_spec_l8Field (x0 : Int) (x1 : Int) (x2 : Bool) : Option (Bool) :=
  (f_spec_l1In x0 0 x1).bind fun y35 =>
  bif y35 then
    bif x2 then
      some true
    else
      some (decide (x0 = (0 : Int)))
  else
    some false
noncomputable def C187 : Con := ⟨[(.B, false, [(.int .i64)]), (.B, false, [(.int .i64)]), (.B, false, [.bool])], [(false, [.bool])], [(.int .i64), (.int .i64), .bool], [.bool], fun (p : Int × Int × Bool) => f_spec_l8Field p.1 p.2.1 p.2.2⟩
noncomputable abbrev K187 : Cons := [(97, C97)]
noncomputable abbrev L187 : List (Nat × Loops) := []
abbrev Q187 : List (Nat × List (Int × Nat) × Nat) := []
noncomputable abbrev X187 : Nat → Ctx := ctxOf tb K187 L187 Q187
theorem E187 : ∀ x, funRun fs X187 6 187 C187 x = C187.fn x := fun x => by kernel_rfl
theorem B187 : ConB Try.prog 187 C187 := ConB.make FS MIX TY (cons := K187) (L := L187) (ptrs := Q187) ⟨S97, trivial⟩ trivial trivial rfl rfl E187
theorem S187 : ConS Try.prog 187 C187 := B187.call rfl
/-! spec.InsOk: function 131 -/
noncomputable def f_spec_InsOk (x0 : Int) (x1 : Int) (x2 : Int) (x3 : Int) (x4 : Int) : Option (Bool) :=
  (f_spec_l8Has x0).bind fun y36 =>
  (f_spec_l1In x0 1 10).bind fun y37 =>
  bif y37 then
    (f_spec_l8Field x1 3 (!(decide ((bitI .and .i64 y36 (1 : Int)) = (0 : Int))))).bind fun y38 =>
    bif y38 then
      (f_spec_l8Field x2 3 (!(decide ((bitI .and .i64 y36 (2 : Int)) = (0 : Int))))).bind fun y39 =>
      bif y39 then
        (f_spec_l8Field x3 3 (!(decide ((bitI .and .i64 y36 (4 : Int)) = (0 : Int))))).bind fun y40 =>
        bif y40 then
          (f_spec_l8Field x4 63 (!(decide ((bitI .and .i64 y36 (8 : Int)) = (0 : Int))))).bind fun y41 =>
          some y41
        else
          some false
      else
        some false
    else
      some false
  else
    some false
noncomputable def C131 : Con := ⟨[(.B, true, [(.int .i64), (.int .i64), (.int .i64), (.int .i64), (.int .i64)])], [(false, [.bool])], [(.int .i64), (.int .i64), (.int .i64), (.int .i64), (.int .i64)], [.bool], fun (p : Int × Int × Int × Int × Int) => f_spec_InsOk p.1 p.2.1 p.2.2.1 p.2.2.2.1 p.2.2.2.2⟩
noncomputable abbrev K131 : Cons := [(97, C97), (186, C186), (187, C187)]
noncomputable abbrev L131 : List (Nat × Loops) := []
abbrev Q131 : List (Nat × List (Int × Nat) × Nat) := []
noncomputable abbrev X131 : Nat → Ctx := ctxOf tb K131 L131 Q131
theorem E131 : ∀ x, funRun fs X131 6 131 C131 x = C131.fn x := fun x => by kernel_rfl
theorem B131 : ConB Try.prog 131 C131 := ConB.make FS MIX TY (cons := K131) (L := L131) (ptrs := Q131) ⟨S97, S186, S187, trivial⟩ trivial trivial rfl rfl E131
theorem S131 : ConS Try.prog 131 C131 := B131.call rfl
/-! spec.Decode: function 133 -/
noncomputable def f_spec_Decode (x0 : Int) : Option (Int × Int × Int × Int × Int × Bool) :=
  (f_spec_l1In x0 0 65535).bind fun y42 =>
  bif (!y42) then
    some (0, 0, 0, 0, 0, false)
  else
    (f_spec_InsOk (Int.tmod x0 (16 : Int)) (Int.tmod (IntKind.wrap .i64 (Int.tdiv x0 (16 : Int))) (4 : Int)) (Int.tmod (IntKind.wrap .i64 (Int.tdiv x0 (64 : Int))) (4 : Int)) (Int.tmod (IntKind.wrap .i64 (Int.tdiv x0 (256 : Int))) (4 : Int)) (IntKind.wrap .i64 (Int.tdiv x0 (1024 : Int)))).bind fun y43 =>
    bif (!y43) then
      some (0, 0, 0, 0, 0, false)
    else
      some ((Int.tmod x0 (16 : Int)), (Int.tmod (IntKind.wrap .i64 (Int.tdiv x0 (16 : Int))) (4 : Int)), (Int.tmod (IntKind.wrap .i64 (Int.tdiv x0 (64 : Int))) (4 : Int)), (Int.tmod (IntKind.wrap .i64 (Int.tdiv x0 (256 : Int))) (4 : Int)), (IntKind.wrap .i64 (Int.tdiv x0 (1024 : Int))), true)
noncomputable def C133 : Con := ⟨[(.B, false, [(.int .i64)])], [(true, [(.int .i64), (.int .i64), (.int .i64), (.int .i64), (.int .i64)]), (false, [.bool])], [(.int .i64)], [(.int .i64), (.int .i64), (.int .i64), (.int .i64), (.int .i64), .bool], fun (p : Int) => f_spec_Decode p⟩
noncomputable abbrev K133 : Cons := [(97, C97), (131, C131)]
noncomputable abbrev L133 : List (Nat × Loops) := []
abbrev Q133 : List (Nat × List (Int × Nat) × Nat) := []
noncomputable abbrev X133 : Nat → Ctx := ctxOf tb K133 L133 Q133
theorem E133 : ∀ x, funRun fs X133 6 133 C133 x = C133.fn x := fun x => by kernel_rfl
theorem B133 : ConB Try.prog 133 C133 := ConB.make FS MIX TY (cons := K133) (L := L133) (ptrs := Q133) ⟨S97, S131, trivial⟩ trivial trivial rfl rfl E133
theorem S133 : ConS Try.prog 133 C133 := B133.call rfl
/-! spec.l9Address: function 202 -/
noncomputable def f_spec_l9Address (x0 : Int) : Option (Int) :=
  bif (decide ((Int.tmod x0 (24 : Int)) < (0 : Int))) then
    some (IntKind.wrap .i64 ((Int.tmod x0 (24 : Int)) + (24 : Int)))
  else
    some (Int.tmod x0 (24 : Int))
noncomputable def C202 : Con := ⟨[(.B, false, [(.int .i64)])], [(false, [(.int .i64)])], [(.int .i64)], [(.int .i64)], fun (p : Int) => f_spec_l9Address p⟩
noncomputable abbrev K202 : Cons := []
noncomputable abbrev L202 : List (Nat × Loops) := []
abbrev Q202 : List (Nat × List (Int × Nat) × Nat) := []
noncomputable abbrev X202 : Nat → Ctx := ctxOf tb K202 L202 Q202
theorem E202 : ∀ x, funRun fs X202 6 202 C202 x = C202.fn x := fun x => by kernel_rfl
theorem B202 : ConB Try.prog 202 C202 := ConB.make FS MIX TY (cons := K202) (L := L202) (ptrs := Q202) trivial trivial trivial rfl rfl E202
theorem S202 : ConS Try.prog 202 C202 := B202.call rfl
/-! spec.Target: function 171 -/
noncomputable def f_spec_Target (x0 : Int) (x1 : Int) (x2 : Int) (x3 : Int) (x4 : Int) (x5 : List Int) : Option (Int) :=
  (f_spec_InsOk x0 x1 x2 x3 x4).bind fun y44 =>
  bif (!y44) then
    some (-1)
  else
    bif (!(decide ((x5.length : Int) = (4 : Int)))) then
      some (-1)
    else
      bif (!(decide (x0 = (4 : Int)))) then
        bif (!(decide (x0 = (5 : Int)))) then
          bif (!(decide (x0 = (6 : Int)))) then
            some (-1)
          else
            bif ((decide ((0 : Int) ≤ x2)) && (decide (x2 < (x5.length : Int)))) then
            (f_spec_l9Address (IntKind.wrap .i64 ((x5.getD x2.toNat 0) + x4))).bind fun y45 =>
            some y45
            else none
        else
          bif ((decide ((0 : Int) ≤ x2)) && (decide (x2 < (x5.length : Int)))) then
          (f_spec_l9Address (IntKind.wrap .i64 ((x5.getD x2.toNat 0) + x4))).bind fun y46 =>
          some y46
          else none
      else
        bif ((decide ((0 : Int) ≤ x2)) && (decide (x2 < (x5.length : Int)))) then
        (f_spec_l9Address (IntKind.wrap .i64 ((x5.getD x2.toNat 0) + x4))).bind fun y47 =>
        some y47
        else none
noncomputable def C171 : Con := ⟨[(.B, true, [(.int .i64), (.int .i64), (.int .i64), (.int .i64), (.int .i64)]), (.B, false, [(.sl R0)])], [(false, [(.int .i64)])], [(.int .i64), (.int .i64), (.int .i64), (.int .i64), (.int .i64), (.sl R0)], [(.int .i64)], fun (p : Int × Int × Int × Int × Int × List Int) => f_spec_Target p.1 p.2.1 p.2.2.1 p.2.2.2.1 p.2.2.2.2.1 p.2.2.2.2.2⟩
noncomputable abbrev K171 : Cons := [(131, C131), (202, C202)]
noncomputable abbrev L171 : List (Nat × Loops) := []
abbrev Q171 : List (Nat × List (Int × Nat) × Nat) := []
noncomputable abbrev X171 : Nat → Ctx := ctxOf tb K171 L171 Q171
theorem E171 : ∀ x, funRun fs X171 6 171 C171 x = C171.fn x := fun x => by kernel_rfl
theorem B171 : ConB Try.prog 171 C171 := ConB.make FS MIX TY (cons := K171) (L := L171) (ptrs := Q171) ⟨S131, S202, trivial⟩ trivial trivial rfl rfl E171
theorem S171 : ConS Try.prog 171 C171 := B171.call rfl
/-! spec.l9Word: function 203 -/
noncomputable def f_spec_l9Word (x0 : Int) : Option (Int) :=
  some (bitI .and .i64 x0 (65535 : Int))
noncomputable def C203 : Con := ⟨[(.B, false, [(.int .i64)])], [(false, [(.int .i64)])], [(.int .i64)], [(.int .i64)], fun (p : Int) => f_spec_l9Word p⟩
noncomputable abbrev K203 : Cons := []
noncomputable abbrev L203 : List (Nat × Loops) := []
abbrev Q203 : List (Nat × List (Int × Nat) × Nat) := []
noncomputable abbrev X203 : Nat → Ctx := ctxOf tb K203 L203 Q203
theorem E203 : ∀ x, funRun fs X203 6 203 C203 x = C203.fn x := fun x => by kernel_rfl
theorem B203 : ConB Try.prog 203 C203 := ConB.make FS MIX TY (cons := K203) (L := L203) (ptrs := Q203) trivial trivial trivial rfl rfl E203
theorem S203 : ConS Try.prog 203 C203 := B203.call rfl
/-! spec.Work: function 172 -/
noncomputable def f_spec_Work (x0 : List Int) (x1 : Int) (x2 : Int) (x3 : Int) (x4 : Int) (x5 : Int) (x6 : Int) (x7 : Int) (x8 : Int) : Option (List Int × Int × Int × Int) :=
  (f_spec_l9Copy x0 x1 x2).bind fun y48 =>
  (f_spec_HartOk x0 x1 x2).bind fun y49 =>
  bif (!y49) then
    some (y48.1, y48.2.1, y48.2.2, -1)
  else
    bif (!(decide (x2 = (0 : Int)))) then
      some (y48.1, y48.2.1, y48.2.2, -1)
    else
      (f_spec_l1In x8 0 65535).bind fun y50 =>
      bif (!y50) then
        some (y48.1, y48.2.1, y48.2.2, -1)
      else
        (f_spec_l9Address (IntKind.wrap .i64 (x1 + (1 : Int)))).bind fun y51 =>
        (f_spec_InsOk x3 x4 x5 x6 x7).bind fun y52 =>
        bif (!y52) then
          some (y48.1, x1, 2, -1)
        else
          bif ((decide ((0 : Int) ≤ x5)) && (decide (x5 < (x0.length : Int)))) then
          bif ((decide ((0 : Int) ≤ x6)) && (decide (x6 < (x0.length : Int)))) then
          bif (decide (x3 = (1 : Int))) then
            bif ((decide ((0 : Int) ≤ x4)) && (decide (x4 < (y48.1.length : Int)))) then
            (some ((y48.1.set x4.toNat x7) : List Int)).bind fun z53 =>
            some (z53, y51, y48.2.2, -1)
            else none
          else
            bif (decide (x3 = (2 : Int))) then
              (f_spec_l9Word (IntKind.wrap .i64 ((x0.getD x5.toNat 0) + (x0.getD x6.toNat 0)))).bind fun y54 =>
              bif ((decide ((0 : Int) ≤ x4)) && (decide (x4 < (y48.1.length : Int)))) then
              (some ((y48.1.set x4.toNat y54) : List Int)).bind fun z55 =>
              some (z55, y51, y48.2.2, -1)
              else none
            else
              bif (decide (x3 = (10 : Int))) then
                (f_spec_l9Word (IntKind.wrap .i64 ((x0.getD x5.toNat 0) - (x0.getD x6.toNat 0)))).bind fun y56 =>
                bif ((decide ((0 : Int) ≤ x4)) && (decide (x4 < (y48.1.length : Int)))) then
                (some ((y48.1.set x4.toNat y56) : List Int)).bind fun z57 =>
                some (z57, y51, y48.2.2, -1)
                else none
              else
                bif (decide (x3 = (3 : Int))) then
                  (f_spec_l9Word (IntKind.wrap .i64 ((x0.getD x5.toNat 0) + x7))).bind fun y58 =>
                  bif ((decide ((0 : Int) ≤ x4)) && (decide (x4 < (y48.1.length : Int)))) then
                  (some ((y48.1.set x4.toNat y58) : List Int)).bind fun z59 =>
                  some (z59, y51, y48.2.2, -1)
                  else none
                else
                  bif (decide (x3 = (4 : Int))) then
                    bif ((decide ((0 : Int) ≤ x4)) && (decide (x4 < (y48.1.length : Int)))) then
                    (some ((y48.1.set x4.toNat x8) : List Int)).bind fun z60 =>
                    some (z60, y51, y48.2.2, -1)
                    else none
                  else
                    bif (decide (x3 = (5 : Int))) then
                      some (y48.1, y51, y48.2.2, (x0.getD x6.toNat 0))
                    else
                      bif (decide (x3 = (6 : Int))) then
                        bif ((decide ((0 : Int) ≤ x4)) && (decide (x4 < (y48.1.length : Int)))) then
                        (some ((y48.1.set x4.toNat x8) : List Int)).bind fun z61 =>
                        (f_spec_l9Word (IntKind.wrap .i64 (x8 + (x0.getD x6.toNat 0)))).bind fun y62 =>
                        some (z61, y51, y48.2.2, y62)
                        else none
                      else
                        bif (decide (x3 = (7 : Int))) then
                          bif (decide ((x0.getD x5.toNat 0) = (0 : Int))) then
                            (f_spec_l9Address x7).bind fun y63 =>
                            some (y48.1, y63, y48.2.2, -1)
                          else
                            some (y48.1, y51, y48.2.2, -1)
                        else
                          bif (decide (x3 = (8 : Int))) then
                            (f_spec_l9Address x7).bind fun y64 =>
                            some (y48.1, y64, y48.2.2, -1)
                          else
                            bif (decide (x3 = (9 : Int))) then
                              some (y48.1, x1, 1, -1)
                            else
                              some (y48.1, y51, y48.2.2, -1)
          else none
          else none
noncomputable def C172 : Con := ⟨[(.B, true, [(.sl R0), (.int .i64), (.int .i64)]), (.B, true, [(.int .i64), (.int .i64), (.int .i64), (.int .i64), (.int .i64)]), (.B, false, [(.int .i64)])], [(true, [(.sl R0), (.int .i64), (.int .i64)]), (false, [(.int .i64)])], [(.sl R0), (.int .i64), (.int .i64), (.int .i64), (.int .i64), (.int .i64), (.int .i64), (.int .i64), (.int .i64)], [(.sl R0), (.int .i64), (.int .i64), (.int .i64)], fun (p : List Int × Int × Int × Int × Int × Int × Int × Int × Int) => f_spec_Work p.1 p.2.1 p.2.2.1 p.2.2.2.1 p.2.2.2.2.1 p.2.2.2.2.2.1 p.2.2.2.2.2.2.1 p.2.2.2.2.2.2.2.1 p.2.2.2.2.2.2.2.2⟩
noncomputable abbrev K172 : Cons := [(96, C96), (97, C97), (131, C131), (170, C170), (202, C202), (203, C203)]
noncomputable abbrev L172 : List (Nat × Loops) := []
abbrev Q172 : List (Nat × List (Int × Nat) × Nat) := []
noncomputable abbrev X172 : Nat → Ctx := ctxOf tb K172 L172 Q172
theorem E172 : ∀ x, funRun fs X172 6 172 C172 x = C172.fn x := fun x => by kernel_rfl
theorem B172 : ConB Try.prog 172 C172 := ConB.make FS MIX TY (cons := K172) (L := L172) (ptrs := Q172) ⟨S96, S97, S131, S170, S202, S203, trivial⟩ trivial trivial rfl rfl E172
theorem S172 : ConS Try.prog 172 C172 := B172.call rfl
/-! spec.FlatStep: function 98 -/
noncomputable def f_spec_FlatStep (x0 : List Int) (x1 : List Int) (x2 : Int) (x3 : Int) : Option (List Int × List Int × Int × Int) :=
  bif (Nat.blt (([] : List Int).length + x0.length) 17592186044416) then
  (some ((([] : List Int) ++ x0) : List Int)).bind fun z65 =>
  (f_spec_l1Words x0 24).bind fun y66 =>
  bif (!y66) then
    (f_spec_l9Copy x1 x2 x3).bind fun y67 =>
    some (z65, y67.1, y67.2.1, y67.2.2)
  else
    (f_spec_HartOk x1 x2 x3).bind fun y68 =>
    bif (!y68) then
      (f_spec_l9Copy x1 x2 x3).bind fun y69 =>
      some (z65, y69.1, y69.2.1, y69.2.2)
    else
      bif (!(decide (x3 = (0 : Int)))) then
        (f_spec_l9Copy x1 x2 x3).bind fun y70 =>
        some (z65, y70.1, y70.2.1, y70.2.2)
      else
        bif ((decide ((0 : Int) ≤ x2)) && (decide (x2 < (x0.length : Int)))) then
        (f_spec_Decode (x0.getD x2.toNat 0)).bind fun y71 =>
        (f_spec_Target y71.1 y71.2.1 y71.2.2.1 y71.2.2.2.1 y71.2.2.2.2.1 x1).bind fun y72 =>
        bif (decide ((0 : Int) ≤ y72)) then
          bif ((decide ((0 : Int) ≤ y72)) && (decide (y72 < (x0.length : Int)))) then
          (f_spec_Work x1 x2 x3 y71.1 y71.2.1 y71.2.2.1 y71.2.2.2.1 y71.2.2.2.2.1 (x0.getD y72.toNat 0)).bind fun y73 =>
          bif (decide ((0 : Int) ≤ y73.2.2.2)) then
            bif ((decide ((0 : Int) ≤ y72)) && (decide (y72 < (z65.length : Int)))) then
            (some ((z65.set y72.toNat y73.2.2.2) : List Int)).bind fun z74 =>
            some (z74, y73.1, y73.2.1, y73.2.2.1)
            else none
          else
            some (z65, y73.1, y73.2.1, y73.2.2.1)
          else none
        else
          (f_spec_Work x1 x2 x3 y71.1 y71.2.1 y71.2.2.1 y71.2.2.2.1 y71.2.2.2.2.1 0).bind fun y75 =>
          bif (decide ((0 : Int) ≤ y75.2.2.2)) then
            bif ((decide ((0 : Int) ≤ y72)) && (decide (y72 < (z65.length : Int)))) then
            (some ((z65.set y72.toNat y75.2.2.2) : List Int)).bind fun z76 =>
            some (z76, y75.1, y75.2.1, y75.2.2.1)
            else none
          else
            some (z65, y75.1, y75.2.1, y75.2.2.1)
        else none
  else none
noncomputable def C98 : Con := ⟨[(.B, false, [(.sl R0)]), (.B, true, [(.sl R0), (.int .i64), (.int .i64)])], [(false, [(.sl R0)]), (true, [(.sl R0), (.int .i64), (.int .i64)])], [(.sl R0), (.sl R0), (.int .i64), (.int .i64)], [(.sl R0), (.sl R0), (.int .i64), (.int .i64)], fun (p : List Int × List Int × Int × Int) => f_spec_FlatStep p.1 p.2.1 p.2.2.1 p.2.2.2⟩
noncomputable abbrev K98 : Cons := [(96, C96), (126, C126), (133, C133), (170, C170), (171, C171), (172, C172)]
noncomputable abbrev L98 : List (Nat × Loops) := []
abbrev Q98 : List (Nat × List (Int × Nat) × Nat) := []
noncomputable abbrev X98 : Nat → Ctx := ctxOf tb K98 L98 Q98
theorem E98 : ∀ x, funRun fs X98 6 98 C98 x = C98.fn x := fun x => by kernel_rfl
theorem B98 : ConB Try.prog 98 C98 := ConB.make FS MIX TY (cons := K98) (L := L98) (ptrs := Q98) ⟨S96, S126, S133, S170, S171, S172, trivial⟩ trivial trivial rfl rfl E98
theorem S98 : ConS Try.prog 98 C98 := B98.call rfl
/-! spec.FlatRun: function 16 -/
noncomputable def f_spec_FlatRun.l1 : Nat → (List Int) → Int → (List Int) → (List (List Int × Int × Int)) → Option (List Int × (List (List Int × Int × Int)))
  | 0, _, _, _, _ => none
  | n + 1, p86, p87, p88, p89 =>
    bif (decide (p87 < (p86.length : Int))) then
      bif (decide ((p86.length : Int) ≤ (2000 : Int))) then
        bif ((decide ((0 : Int) ≤ p87)) && (decide (p87 < (p86.length : Int)))) then
        (f_spec_l1In (p86.getD p87.toNat 0) 0 (IntKind.wrap .i64 ((p89.length : Int) - (1 : Int)))).bind fun y90 =>
        bif y90 then
          bif ((decide ((0 : Int) ≤ (p86.getD p87.toNat 0))) && (decide ((p86.getD p87.toNat 0) < (p89.length : Int)))) then
          (f_spec_FlatStep p88 ((p89.getD (p86.getD p87.toNat 0).toNat ([], 0, 0)).1) ((p89.getD (p86.getD p87.toNat 0).toNat ([], 0, 0)).2.1) ((p89.getD (p86.getD p87.toNat 0).toNat ([], 0, 0)).2.2)).bind fun y91 =>
          bif ((decide ((0 : Int) ≤ (p86.getD p87.toNat 0))) && (decide ((p86.getD p87.toNat 0) < (p89.length : Int)))) then
          (some ((p89.set (p86.getD p87.toNat 0).toNat (y91.2.1, y91.2.2.1, y91.2.2.2)) : List (List Int × Int × Int))).bind fun z92 =>
          f_spec_FlatRun.l1 n p86 (IntKind.wrap .i64 (p87 + (1 : Int))) y91.1 z92
          else none
          else none
        else
          f_spec_FlatRun.l1 n p86 (IntKind.wrap .i64 (p87 + (1 : Int))) p88 p89
        else none
      else
        some (p88, p89)
    else
      some (p88, p89)
noncomputable def f_spec_FlatRun.l0 : Nat → (List (List Int × Int × Int)) → (List Int) → Int → (List Int) → (List (List Int × Int × Int)) → Option (List Int × List Int × (List (List Int × Int × Int)))
  | 0, _, _, _, _, _ => none
  | n + 1, p78, p79, p80, p81, p82 =>
    bif (decide (p80 < (p78.length : Int))) then
      bif ((decide ((0 : Int) ≤ p80)) && (decide (p80 < (p78.length : Int)))) then
      (f_spec_l9Copy ((p78.getD p80.toNat ([], 0, 0)).1) ((p78.getD p80.toNat ([], 0, 0)).2.1) ((p78.getD p80.toNat ([], 0, 0)).2.2)).bind fun y83 =>
      bif (Nat.blt (p82.length + ([(y83.1, y83.2.1, y83.2.2)] : List (List Int × Int × Int)).length) 3518437208883) then
      (some ((p82 ++ ([(y83.1, y83.2.1, y83.2.2)] : List (List Int × Int × Int))) : List (List Int × Int × Int))).bind fun z84 =>
      f_spec_FlatRun.l0 n p78 p79 (IntKind.wrap .i64 (p80 + (1 : Int))) p81 z84
      else none
      else none
    else
      some (p79, p81, p82)
noncomputable def f_spec_FlatRun (x0 : List Int) (x1 : List (List Int × Int × Int)) (x2 : List Int) : Option (List Int × (List (List Int × Int × Int))) :=
  bif (Nat.blt (([] : List Int).length + x0.length) 17592186044416) then
  (some ((([] : List Int) ++ x0) : List Int)).bind fun z77 =>
  (f_spec_FlatRun.l0 N x1 x2 0 z77 ([] : List (List Int × Int × Int))).bind fun r85 =>
  (f_spec_FlatRun.l1 N r85.1 0 r85.2.1 r85.2.2).bind fun r93 =>
  some (r93.1, r93.2)
  else none
noncomputable def C16 : Con := ⟨[(.B, false, [(.sl R0)]), (.B, false, [(.sl R1)]), (.B, false, [(.sl R0)])], [(false, [(.sl R0)]), (false, [(.sl R1)])], [(.sl R0), (.sl R1), (.sl R0)], [(.sl R0), (.sl R1)], fun (p : List Int × (List (List Int × Int × Int)) × List Int) => f_spec_FlatRun p.1 p.2.1 p.2.2⟩
noncomputable def f_spec_FlatRun.l0.c : LoopCon := ⟨1000, 6, [1, 2, 6, 7, 8, 9, 10], ⟨[(1, .bor none R1 []), (2, .bor none R0 []), (6, .nil (some R0)), (7, .nil (some R1)), (8, .ref 1000 [] none), (9, .ref 1001 [] none), (10, .int .i64 0)], [(1000, .row R0 []), (1001, .row R1 [])], 1002⟩, [(.sl R1), (.sl R0), (.int .i64), (.sl R0), (.sl R1)], [⟨.exit 0, [2, 6, 7, 8, 9], ⟨[(2, .bor none R0 []), (6, .nil (some R0)), (7, .nil (some R1)), (8, .ref 1000 [] none), (9, .ref 1001 [] none)], [(1000, .row R0 []), (1001, .row R1 [])], 1002⟩, [(.sl R0), (.sl R0), (.sl R1)]⟩], fun (p : (List (List Int × Int × Int)) × List Int × Int × List Int × (List (List Int × Int × Int))) => f_spec_FlatRun.l0 N p.1 p.2.1 p.2.2.1 p.2.2.2.1 p.2.2.2.2⟩
noncomputable def f_spec_FlatRun.l1.c : LoopCon := ⟨1000, 6, [2, 6, 7, 8, 9, 11], ⟨[(2, .bor none R0 []), (6, .nil (some R0)), (7, .nil (some R1)), (8, .ref 1000 [] none), (9, .ref 1001 [] none), (11, .int .i64 0)], [(1000, .row R0 []), (1001, .row R1 [])], 1002⟩, [(.sl R0), (.int .i64), (.sl R0), (.sl R1)], [⟨.exit 2, [6, 7, 8, 9], ⟨[(6, .nil (some R0)), (7, .nil (some R1)), (8, .ref 1000 [] none), (9, .ref 1001 [] none)], [(1000, .row R0 []), (1001, .row R1 [])], 1002⟩, [(.sl R0), (.sl R1)]⟩], fun (p : List Int × Int × List Int × (List (List Int × Int × Int))) => f_spec_FlatRun.l1 N p.1 p.2.1 p.2.2.1 p.2.2.2⟩
noncomputable abbrev K16 : Cons := [(96, C96), (97, C97), (98, C98)]
noncomputable abbrev L16 : List (Nat × Loops) := [(16, [(4, f_spec_FlatRun.l0.c), (8, f_spec_FlatRun.l1.c)])]
abbrev Q16 : List (Nat × List (Int × Nat) × Nat) := []
noncomputable abbrev X16 : Nat → Ctx := ctxOf tb K16 L16 Q16
theorem f_spec_FlatRun.l0.ok : ∀ n p, (fun (p : (List (List Int × Int × Int)) × List Int × Int × List Int × (List (List Int × Int × Int))) => f_spec_FlatRun.l0 n p.1 p.2.1 p.2.2.1 p.2.2.2.1 p.2.2.2.2) p = iterD (roundOf fs X16 6 16 4 false f_spec_FlatRun.l0.c) n p :=
  iter_of (l := fun n => fun (p : (List (List Int × Int × Int)) × List Int × Int × List Int × (List (List Int × Int × Int))) => f_spec_FlatRun.l0 n p.1 p.2.1 p.2.2.1 p.2.2.2.1 p.2.2.2.2) (fun _ => rfl) (fun n p => by kernel_rfl)
theorem f_spec_FlatRun.l1.ok : ∀ n p, (fun (p : List Int × Int × List Int × (List (List Int × Int × Int))) => f_spec_FlatRun.l1 n p.1 p.2.1 p.2.2.1 p.2.2.2) p = iterD (roundOf fs X16 6 16 8 false f_spec_FlatRun.l1.c) n p :=
  iter_of (l := fun n => fun (p : List Int × Int × List Int × (List (List Int × Int × Int))) => f_spec_FlatRun.l1 n p.1 p.2.1 p.2.2.1 p.2.2.2) (fun _ => rfl) (fun n p => by kernel_rfl)
theorem E16 : ∀ x, funRun fs X16 6 16 C16 x = C16.fn x := fun x => by kernel_rfl
theorem B16 : ConB Try.prog 16 C16 := ConB.make FS MIX TY (cons := K16) (L := L16) (ptrs := Q16) ⟨S96, S97, S98, trivial⟩ trivial ⟨⟨⟨N, fun p => f_spec_FlatRun.l0.ok N p⟩, ⟨N, fun p => f_spec_FlatRun.l1.ok N p⟩, trivial⟩, trivial⟩ rfl rfl E16
theorem S16 : ConS Try.prog 16 C16 := B16.call rfl
/-! slices.Clone[[]int,int]: function 100 -/
noncomputable def f_slices_Clone_int_int (x0 : List Int) : Option (List Int) := bif Nat.blt (0 + x0.length) 17592186044416 then some x0 else none
noncomputable def C100 : Con := ⟨[(.B, false, [(.sl R0)])], [(false, [(.sl R0)])], [(.sl R0)], [(.sl R0)], f_slices_Clone_int_int⟩
noncomputable abbrev X100 : Nat → Ctx := ctxOf tb [] [] []
theorem E100 : ∀ x : List R0.den, bodyRun fs X100 6 100 C100 [] [] [.bor (some 1000) R0 x] [] = f_slices_Clone_int_int x := fun x => by kernel_rfl
theorem Z100 : bodyRun fs X100 6 100 C100 [] [] [.nil (some R0)] [] = f_slices_Clone_int_int ([] : List R0.den) := by kernel_rfl
theorem B100 : ConB Try.prog 100 C100 := ConB.copy FS MIX TY (cons := []) (L := []) (ptrs := []) trivial trivial trivial rfl E100 Z100
theorem S100 : ConS Try.prog 100 C100 := B100.call rfl
/-! impl.copyHart: function 173 -/
noncomputable def f_impl_copyHart (x0 : List Int) (x1 : Int) (x2 : Int) : Option (List Int × Int × Int) :=
  (f_slices_Clone_int_int x0).bind fun y94 =>
  some (y94, x1, x2)
noncomputable def C173 : Con := ⟨[(.B, true, [(.sl R0), (.int .i64), (.int .i64)])], [(true, [(.sl R0), (.int .i64), (.int .i64)])], [(.sl R0), (.int .i64), (.int .i64)], [(.sl R0), (.int .i64), (.int .i64)], fun (p : List Int × Int × Int) => f_impl_copyHart p.1 p.2.1 p.2.2⟩
noncomputable abbrev K173 : Cons := [(100, C100)]
noncomputable abbrev L173 : List (Nat × Loops) := []
abbrev Q173 : List (Nat × List (Int × Nat) × Nat) := []
noncomputable abbrev X173 : Nat → Ctx := ctxOf tb K173 L173 Q173
theorem E173 : ∀ x, funRun fs X173 6 173 C173 x = C173.fn x := fun x => by kernel_rfl
theorem B173 : ConB Try.prog 173 C173 := ConB.make FS MIX TY (cons := K173) (L := L173) (ptrs := Q173) ⟨S100, trivial⟩ trivial trivial rfl rfl E173
theorem S173 : ConS Try.prog 173 C173 := B173.call rfl
/-! impl.copyHarts: function 101 -/
noncomputable def f_impl_copyHarts.l0 : Nat → (List (List Int × Int × Int)) → Int → Int → (List (List Int × Int × Int)) → Option ((List (List Int × Int × Int)))
  | 0, _, _, _, _ => none
  | n + 1, p95, p96, p97, p98 =>
    bif (decide (p97 < p96)) then
      bif ((decide ((0 : Int) ≤ p97)) && (decide (p97 < (p95.length : Int)))) then
      (f_impl_copyHart ((p95.getD p97.toNat ([], 0, 0)).1) ((p95.getD p97.toNat ([], 0, 0)).2.1) ((p95.getD p97.toNat ([], 0, 0)).2.2)).bind fun y99 =>
      bif (Nat.blt (p98.length + ([(y99.1, y99.2.1, y99.2.2)] : List (List Int × Int × Int)).length) 3518437208883) then
      (some ((p98 ++ ([(y99.1, y99.2.1, y99.2.2)] : List (List Int × Int × Int))) : List (List Int × Int × Int))).bind fun z100 =>
      f_impl_copyHarts.l0 n p95 p96 (IntKind.wrap .i64 (p97 + (1 : Int))) z100
      else none
      else none
    else
      some p98
noncomputable def f_impl_copyHarts (x0 : List (List Int × Int × Int)) : Option ((List (List Int × Int × Int))) :=
  (f_impl_copyHarts.l0 N x0 (x0.length : Int) 0 ([] : List (List Int × Int × Int))).bind fun r101 =>
  some r101
noncomputable def C101 : Con := ⟨[(.B, false, [(.sl R1)])], [(false, [(.sl R1)])], [(.sl R1)], [(.sl R1)], fun (p : (List (List Int × Int × Int))) => f_impl_copyHarts p⟩
noncomputable def f_impl_copyHarts.l0.c : LoopCon := ⟨1000, 6, [2, 3, 7, 8, 9], ⟨[(2, .nil (some R1)), (3, .ref 1000 [] none), (7, .bor none R1 []), (8, .int .i64 0), (9, .int .i64 0)], [(1000, .row R1 [])], 1001⟩, [(.sl R1), (.int .i64), (.int .i64), (.sl R1)], [⟨.exit 0, [2, 3], ⟨[(2, .nil (some R1)), (3, .ref 1000 [] none)], [(1000, .row R1 [])], 1001⟩, [(.sl R1)]⟩], fun (p : (List (List Int × Int × Int)) × Int × Int × (List (List Int × Int × Int))) => f_impl_copyHarts.l0 N p.1 p.2.1 p.2.2.1 p.2.2.2⟩
noncomputable abbrev K101 : Cons := [(173, C173)]
noncomputable abbrev L101 : List (Nat × Loops) := [(101, [(3, f_impl_copyHarts.l0.c)])]
abbrev Q101 : List (Nat × List (Int × Nat) × Nat) := []
noncomputable abbrev X101 : Nat → Ctx := ctxOf tb K101 L101 Q101
theorem f_impl_copyHarts.l0.ok : ∀ n p, (fun (p : (List (List Int × Int × Int)) × Int × Int × (List (List Int × Int × Int))) => f_impl_copyHarts.l0 n p.1 p.2.1 p.2.2.1 p.2.2.2) p = iterD (roundOf fs X101 6 101 3 false f_impl_copyHarts.l0.c) n p :=
  iter_of (l := fun n => fun (p : (List (List Int × Int × Int)) × Int × Int × (List (List Int × Int × Int))) => f_impl_copyHarts.l0 n p.1 p.2.1 p.2.2.1 p.2.2.2) (fun _ => rfl) (fun n p => by kernel_rfl)
theorem E101 : ∀ x, funRun fs X101 6 101 C101 x = C101.fn x := fun x => by kernel_rfl
theorem B101 : ConB Try.prog 101 C101 := ConB.make FS MIX TY (cons := K101) (L := L101) (ptrs := Q101) ⟨S173, trivial⟩ trivial ⟨⟨⟨N, fun p => f_impl_copyHarts.l0.ok N p⟩, trivial⟩, trivial⟩ rfl rfl E101
theorem S101 : ConS Try.prog 101 C101 := B101.call rfl
/-! impl.from: function 103 -/
noncomputable def f_impl_from (x0 : Int) (x1 : Int) (x2 : Int) : Option (Bool) :=
  bif (decide (x1 ≤ x0)) then
    some (decide (x0 ≤ x2))
  else
    some false
noncomputable def C103 : Con := ⟨[(.B, false, [(.int .i64)]), (.B, false, [(.int .i64)]), (.B, false, [(.int .i64)])], [(false, [.bool])], [(.int .i64), (.int .i64), (.int .i64)], [.bool], fun (p : Int × Int × Int) => f_impl_from p.1 p.2.1 p.2.2⟩
noncomputable abbrev K103 : Cons := []
noncomputable abbrev L103 : List (Nat × Loops) := []
abbrev Q103 : List (Nat × List (Int × Nat) × Nat) := []
noncomputable abbrev X103 : Nat → Ctx := ctxOf tb K103 L103 Q103
theorem E103 : ∀ x, funRun fs X103 6 103 C103 x = C103.fn x := fun x => by kernel_rfl
theorem B103 : ConB Try.prog 103 C103 := ConB.make FS MIX TY (cons := K103) (L := L103) (ptrs := Q103) trivial trivial trivial rfl rfl E103
theorem S103 : ConS Try.prog 103 C103 := B103.call rfl
/-! impl.isWord: function 137 -/
noncomputable def f_impl_isWord (x0 : Int) : Option (Bool) :=
  (f_impl_from x0 0 65535).bind fun y102 =>
  some y102
noncomputable def C137 : Con := ⟨[(.B, false, [(.int .i64)])], [(false, [.bool])], [(.int .i64)], [.bool], fun (p : Int) => f_impl_isWord p⟩
noncomputable abbrev K137 : Cons := [(103, C103)]
noncomputable abbrev L137 : List (Nat × Loops) := []
abbrev Q137 : List (Nat × List (Int × Nat) × Nat) := []
noncomputable abbrev X137 : Nat → Ctx := ctxOf tb K137 L137 Q137
theorem E137 : ∀ x, funRun fs X137 6 137 C137 x = C137.fn x := fun x => by kernel_rfl
theorem B137 : ConB Try.prog 137 C137 := ConB.make FS MIX TY (cons := K137) (L := L137) (ptrs := Q137) ⟨S103, trivial⟩ trivial trivial rfl rfl E137
theorem S137 : ConS Try.prog 137 C137 := B137.call rfl
/-! impl.wordsOk$1: function 180 -/
noncomputable def f_impl_wordsOk_1 (x0 : Int) : Option (Bool) :=
  (f_impl_isWord x0).bind fun y103 =>
  some (!y103)
noncomputable def C180 : Con := ⟨[(.B, false, [(.int .i64)])], [(false, [.bool])], [(.int .i64)], [.bool], fun (p : Int) => f_impl_wordsOk_1 p⟩
noncomputable abbrev K180 : Cons := [(137, C137)]
noncomputable abbrev L180 : List (Nat × Loops) := []
abbrev Q180 : List (Nat × List (Int × Nat) × Nat) := []
noncomputable abbrev X180 : Nat → Ctx := ctxOf tb K180 L180 Q180
theorem E180 : ∀ x, funRun fs X180 6 180 C180 x = C180.fn x := fun x => by kernel_rfl
theorem B180 : ConB Try.prog 180 C180 := ConB.make FS MIX TY (cons := K180) (L := L180) (ptrs := Q180) ⟨S137, trivial⟩ trivial trivial rfl rfl E180
theorem S180 : ConS Try.prog 180 C180 := B180.call rfl
/-! impl.wordsOk: function 120 -/
noncomputable def f_impl_wordsOk.l0 : Nat → (List Int) → Int → Int → Int → Option ((Int) ⊕ (Int))
  | 0, _, _, _, _ => none
  | n + 1, p104, p105, p106, p107 =>
    bif (decide (p107 < p106)) then
      bif ((decide ((0 : Int) ≤ p107)) && (decide (p107 < (p104.length : Int)))) then
      (f_impl_wordsOk_1 (p104.getD p107.toNat 0)).bind fun y108 =>
      bif y108 then
        some (.inl p107)
      else
        f_impl_wordsOk.l0 n p104 p105 p106 (IntKind.wrap .i64 (p107 + (1 : Int)))
      else none
    else
      some (.inr p105)
noncomputable def f_impl_wordsOk (x0 : List Int) (x1 : Int) : Option (Bool) :=
  bif (decide ((x0.length : Int) = x1)) then
    (f_impl_wordsOk.l0 N x0 0 (x0.length : Int) 0).bind fun r109 =>
    cs r109 (fun a110 =>
      some (!(decide ((0 : Int) ≤ a110)))) (fun b111 =>
      some true)
  else
    some false
noncomputable def C120 : Con := ⟨[(.B, false, [(.sl R0)]), (.B, false, [(.int .i64)])], [(false, [.bool])], [(.sl R0), (.int .i64)], [.bool], fun (p : List Int × Int) => f_impl_wordsOk p.1 p.2⟩
noncomputable def f_impl_wordsOk.l0.c : LoopCon := ⟨1274, 4, [0, 1, 4, 7, 8], ⟨[(0, .bor none R0 []), (1, .func 180 []), (4, .int .i64 0), (7, .int .i64 0), (8, .int .i64 0)], [], 1274⟩, [(.sl R0), (.int .i64), (.int .i64), (.int .i64)], [⟨.ret, [4], ⟨[(4, .int .i64 0)], [], 1274⟩, [(.int .i64)]⟩, ⟨.exit 0, [4], ⟨[(4, .int .i64 0)], [], 1274⟩, [(.int .i64)]⟩], fun (p : List Int × Int × Int × Int) => f_impl_wordsOk.l0 N p.1 p.2.1 p.2.2.1 p.2.2.2⟩
noncomputable abbrev K120 : Cons := [(180, C180)]
noncomputable abbrev L120 : List (Nat × Loops) := [(207, [(2, f_impl_wordsOk.l0.c)])]
abbrev Q120 : List (Nat × List (Int × Nat) × Nat) := []
noncomputable abbrev X120 : Nat → Ctx := ctxOf tb K120 L120 Q120
theorem f_impl_wordsOk.l0.ok : ∀ n p, (fun (p : List Int × Int × Int × Int) => f_impl_wordsOk.l0 n p.1 p.2.1 p.2.2.1 p.2.2.2) p = iterD (roundOf fs X120 4 207 2 true f_impl_wordsOk.l0.c) n p :=
  iter_of (l := fun n => fun (p : List Int × Int × Int × Int) => f_impl_wordsOk.l0 n p.1 p.2.1 p.2.2.1 p.2.2.2) (fun _ => rfl) (fun n p => by kernel_rfl)
theorem E120 : ∀ x, funRun fs X120 6 120 C120 x = C120.fn x := fun x => by kernel_rfl
theorem B120 : ConB Try.prog 120 C120 := ConB.make FS MIX TY (cons := K120) (L := L120) (ptrs := Q120) ⟨S180, trivial⟩ trivial ⟨⟨⟨N, fun p => f_impl_wordsOk.l0.ok N p⟩, trivial⟩, trivial⟩ rfl rfl E120
theorem S120 : ConS Try.prog 120 C120 := B120.call rfl
/-! impl.memOk: function 102 -/
noncomputable def f_impl_memOk (x0 : List Int) : Option (Bool) :=
  (f_impl_wordsOk x0 24).bind fun y112 =>
  some y112
noncomputable def C102 : Con := ⟨[(.B, false, [(.sl R0)])], [(false, [.bool])], [(.sl R0)], [.bool], fun (p : List Int) => f_impl_memOk p⟩
noncomputable abbrev K102 : Cons := [(120, C120)]
noncomputable abbrev L102 : List (Nat × Loops) := []
abbrev Q102 : List (Nat × List (Int × Nat) × Nat) := []
noncomputable abbrev X102 : Nat → Ctx := ctxOf tb K102 L102 Q102
theorem E102 : ∀ x, funRun fs X102 6 102 C102 x = C102.fn x := fun x => by kernel_rfl
theorem B102 : ConB Try.prog 102 C102 := ConB.make FS MIX TY (cons := K102) (L := L102) (ptrs := Q102) ⟨S120, trivial⟩ trivial trivial rfl rfl E102
theorem S102 : ConS Try.prog 102 C102 := B102.call rfl
/-! impl.isCell: function 128 -/
noncomputable def f_impl_isCell (x0 : Int) : Option (Bool) :=
  (f_impl_from x0 0 23).bind fun y113 =>
  some y113
noncomputable def C128 : Con := ⟨[(.B, false, [(.int .i64)])], [(false, [.bool])], [(.int .i64)], [.bool], fun (p : Int) => f_impl_isCell p⟩
noncomputable abbrev K128 : Cons := [(103, C103)]
noncomputable abbrev L128 : List (Nat × Loops) := []
abbrev Q128 : List (Nat × List (Int × Nat) × Nat) := []
noncomputable abbrev X128 : Nat → Ctx := ctxOf tb K128 L128 Q128
theorem E128 : ∀ x, funRun fs X128 6 128 C128 x = C128.fn x := fun x => by kernel_rfl
theorem B128 : ConB Try.prog 128 C128 := ConB.make FS MIX TY (cons := K128) (L := L128) (ptrs := Q128) ⟨S103, trivial⟩ trivial trivial rfl rfl E128
theorem S128 : ConS Try.prog 128 C128 := B128.call rfl
/-! impl.HartOk: function 174 -/
noncomputable def f_impl_HartOk (x0 : List Int) (x1 : Int) (x2 : Int) : Option (Bool) :=
  (f_impl_wordsOk x0 4).bind fun y114 =>
  bif y114 then
    (f_impl_isCell x1).bind fun y115 =>
    bif y115 then
      (f_impl_from x2 0 2).bind fun y116 =>
      some y116
    else
      some false
  else
    some false
noncomputable def C174 : Con := ⟨[(.B, true, [(.sl R0), (.int .i64), (.int .i64)])], [(false, [.bool])], [(.sl R0), (.int .i64), (.int .i64)], [.bool], fun (p : List Int × Int × Int) => f_impl_HartOk p.1 p.2.1 p.2.2⟩
noncomputable abbrev K174 : Cons := [(103, C103), (120, C120), (128, C128)]
noncomputable abbrev L174 : List (Nat × Loops) := []
abbrev Q174 : List (Nat × List (Int × Nat) × Nat) := []
noncomputable abbrev X174 : Nat → Ctx := ctxOf tb K174 L174 Q174
theorem E174 : ∀ x, funRun fs X174 6 174 C174 x = C174.fn x := fun x => by kernel_rfl
theorem B174 : ConB Try.prog 174 C174 := ConB.make FS MIX TY (cons := K174) (L := L174) (ptrs := Q174) ⟨S103, S120, S128, trivial⟩ trivial trivial rfl rfl E174
theorem S174 : ConS Try.prog 174 C174 := B174.call rfl
/-! impl.goes: function 104 -/
noncomputable def f_impl_goes (x0 : List Int) (x1 : Int) (x2 : Int) : Option (Bool) :=
  (f_impl_HartOk x0 x1 x2).bind fun y117 =>
  bif y117 then
    some (decide (x2 = (0 : Int)))
  else
    some false
noncomputable def C104 : Con := ⟨[(.B, true, [(.sl R0), (.int .i64), (.int .i64)])], [(false, [.bool])], [(.sl R0), (.int .i64), (.int .i64)], [.bool], fun (p : List Int × Int × Int) => f_impl_goes p.1 p.2.1 p.2.2⟩
noncomputable abbrev K104 : Cons := [(174, C174)]
noncomputable abbrev L104 : List (Nat × Loops) := []
abbrev Q104 : List (Nat × List (Int × Nat) × Nat) := []
noncomputable abbrev X104 : Nat → Ctx := ctxOf tb K104 L104 Q104
theorem E104 : ∀ x, funRun fs X104 6 104 C104 x = C104.fn x := fun x => by kernel_rfl
theorem B104 : ConB Try.prog 104 C104 := ConB.make FS MIX TY (cons := K104) (L := L104) (ptrs := Q104) ⟨S174, trivial⟩ trivial trivial rfl rfl E104
theorem S104 : ConS Try.prog 104 C104 := B104.call rfl
/-! impl.form: function 184 -/
noncomputable def f_impl_form (x0 : Int) : Option (ByteArray × Bool) :=
  bif (decide (x0 = (1 : Int))) then
    some ((⟨#[82, 78]⟩ : ByteArray), true)
  else
    bif (decide (x0 = (2 : Int))) then
      some ((⟨#[82, 65, 66]⟩ : ByteArray), true)
    else
      bif (decide (x0 = (10 : Int))) then
        some ((⟨#[82, 65, 66]⟩ : ByteArray), true)
      else
        bif (decide (x0 = (3 : Int))) then
          some ((⟨#[82, 65, 78]⟩ : ByteArray), true)
        else
          bif (decide (x0 = (4 : Int))) then
            some ((⟨#[82, 65, 78]⟩ : ByteArray), true)
          else
            bif (decide (x0 = (5 : Int))) then
              some ((⟨#[65, 66, 78]⟩ : ByteArray), true)
            else
              bif (decide (x0 = (6 : Int))) then
                some ((⟨#[82, 65, 66, 78]⟩ : ByteArray), true)
              else
                bif (decide (x0 = (7 : Int))) then
                  some ((⟨#[65, 78]⟩ : ByteArray), true)
                else
                  bif (decide (x0 = (8 : Int))) then
                    some ((⟨#[78]⟩ : ByteArray), true)
                  else
                    bif (decide (x0 = (9 : Int))) then
                      some ((⟨#[]⟩ : ByteArray), true)
                    else
                      some ((⟨#[]⟩ : ByteArray), false)
noncomputable def C184 : Con := ⟨[(.B, false, [(.int .i64)])], [(false, [.str]), (false, [.bool])], [(.int .i64)], [.str, .bool], fun (p : Int) => f_impl_form p⟩
noncomputable abbrev K184 : Cons := []
noncomputable abbrev L184 : List (Nat × Loops) := []
abbrev Q184 : List (Nat × List (Int × Nat) × Nat) := []
noncomputable abbrev X184 : Nat → Ctx := ctxOf tb K184 L184 Q184
theorem E184 : ∀ x, funRun fs X184 6 184 C184 x = C184.fn x := fun x => by kernel_rfl
theorem B184 : ConB Try.prog 184 C184 := ConB.make FS MIX TY (cons := K184) (L := L184) (ptrs := Q184) trivial trivial trivial rfl rfl E184
theorem S184 : ConS Try.prog 184 C184 := B184.call rfl
/-! impl.InsOk: function 130 -/
noncomputable def f_impl_InsOk.l0 : Nat → Bool → ByteArray → Bool → Int → Int → Int → Int → Int → Int → Int → Int → Int → Int → Int → Int → Option (Bool × Bool × Int × Int × Int × Int × Int × Int × Int × Int × Int × Int)
  | 0, _, _, _, _, _, _, _, _, _, _, _, _, _, _, _ => none
  | n + 1, p119, p120, p121, p122, p123, p124, p125, p126, p127, p128, p129, p130, p131, p132, p133 =>
    bif (decide (p123 < p122)) then
      bif ((decide ((0 : Int) ≤ p123)) && (decide (p123 < (p120.size : Int)))) then
      bif (decide (((p120.data.getD p123.toNat 0).toNat : Int) = (82 : Int))) then
        bif ((decide ((0 : Int) ≤ p123)) && (decide (p123 < (p120.size : Int)))) then
        bif (decide (((p120.data.getD p123.toNat 0).toNat : Int) = (82 : Int))) then
          f_impl_InsOk.l0 n p119 p120 p121 p122 (IntKind.wrap .i64 (p123 + (1 : Int))) p124 p125 p126 p127 p128 p129 p125 p131 p132 p133
        else
          bif (decide (((p120.data.getD p123.toNat 0).toNat : Int) = (65 : Int))) then
            f_impl_InsOk.l0 n p119 p120 p121 p122 (IntKind.wrap .i64 (p123 + (1 : Int))) p124 p125 p126 p127 p128 p129 p126 p131 p132 p133
          else
            bif (decide (((p120.data.getD p123.toNat 0).toNat : Int) = (66 : Int))) then
              f_impl_InsOk.l0 n p119 p120 p121 p122 (IntKind.wrap .i64 (p123 + (1 : Int))) p124 p125 p126 p127 p128 p129 p127 p131 p132 p133
            else
              f_impl_InsOk.l0 n p119 p120 p121 p122 (IntKind.wrap .i64 (p123 + (1 : Int))) p124 p125 p126 p127 p128 p129 p128 p131 p132 p133
        else none
      else
        bif (decide (((p120.data.getD p123.toNat 0).toNat : Int) = (65 : Int))) then
          bif ((decide ((0 : Int) ≤ p123)) && (decide (p123 < (p120.size : Int)))) then
          bif (decide (((p120.data.getD p123.toNat 0).toNat : Int) = (82 : Int))) then
            f_impl_InsOk.l0 n p119 p120 p121 p122 (IntKind.wrap .i64 (p123 + (1 : Int))) p124 p125 p126 p127 p128 p129 p130 p125 p132 p133
          else
            bif (decide (((p120.data.getD p123.toNat 0).toNat : Int) = (65 : Int))) then
              f_impl_InsOk.l0 n p119 p120 p121 p122 (IntKind.wrap .i64 (p123 + (1 : Int))) p124 p125 p126 p127 p128 p129 p130 p126 p132 p133
            else
              bif (decide (((p120.data.getD p123.toNat 0).toNat : Int) = (66 : Int))) then
                f_impl_InsOk.l0 n p119 p120 p121 p122 (IntKind.wrap .i64 (p123 + (1 : Int))) p124 p125 p126 p127 p128 p129 p130 p127 p132 p133
              else
                f_impl_InsOk.l0 n p119 p120 p121 p122 (IntKind.wrap .i64 (p123 + (1 : Int))) p124 p125 p126 p127 p128 p129 p130 p128 p132 p133
          else none
        else
          bif (decide (((p120.data.getD p123.toNat 0).toNat : Int) = (66 : Int))) then
            bif ((decide ((0 : Int) ≤ p123)) && (decide (p123 < (p120.size : Int)))) then
            bif (decide (((p120.data.getD p123.toNat 0).toNat : Int) = (82 : Int))) then
              f_impl_InsOk.l0 n p119 p120 p121 p122 (IntKind.wrap .i64 (p123 + (1 : Int))) p124 p125 p126 p127 p128 p129 p130 p131 p125 p133
            else
              bif (decide (((p120.data.getD p123.toNat 0).toNat : Int) = (65 : Int))) then
                f_impl_InsOk.l0 n p119 p120 p121 p122 (IntKind.wrap .i64 (p123 + (1 : Int))) p124 p125 p126 p127 p128 p129 p130 p131 p126 p133
              else
                bif (decide (((p120.data.getD p123.toNat 0).toNat : Int) = (66 : Int))) then
                  f_impl_InsOk.l0 n p119 p120 p121 p122 (IntKind.wrap .i64 (p123 + (1 : Int))) p124 p125 p126 p127 p128 p129 p130 p131 p127 p133
                else
                  f_impl_InsOk.l0 n p119 p120 p121 p122 (IntKind.wrap .i64 (p123 + (1 : Int))) p124 p125 p126 p127 p128 p129 p130 p131 p128 p133
            else none
          else
            bif ((decide ((0 : Int) ≤ p123)) && (decide (p123 < (p120.size : Int)))) then
            bif (decide (((p120.data.getD p123.toNat 0).toNat : Int) = (82 : Int))) then
              f_impl_InsOk.l0 n p119 p120 p121 p122 (IntKind.wrap .i64 (p123 + (1 : Int))) p124 p125 p126 p127 p128 p129 p130 p131 p132 p125
            else
              bif (decide (((p120.data.getD p123.toNat 0).toNat : Int) = (65 : Int))) then
                f_impl_InsOk.l0 n p119 p120 p121 p122 (IntKind.wrap .i64 (p123 + (1 : Int))) p124 p125 p126 p127 p128 p129 p130 p131 p132 p126
              else
                bif (decide (((p120.data.getD p123.toNat 0).toNat : Int) = (66 : Int))) then
                  f_impl_InsOk.l0 n p119 p120 p121 p122 (IntKind.wrap .i64 (p123 + (1 : Int))) p124 p125 p126 p127 p128 p129 p130 p131 p132 p127
                else
                  f_impl_InsOk.l0 n p119 p120 p121 p122 (IntKind.wrap .i64 (p123 + (1 : Int))) p124 p125 p126 p127 p128 p129 p130 p131 p132 p128
            else none
      else none
    else
      some (p119, p121, p124, p125, p126, p127, p128, p129, p130, p131, p132, p133)
noncomputable def f_impl_InsOk (x0 : Int) (x1 : Int) (x2 : Int) (x3 : Int) (x4 : Int) : Option (Bool) :=
  (f_impl_form x0).bind fun y118 =>
  (f_impl_InsOk.l0 N false y118.1 y118.2 (y118.1.size : Int) 0 x0 x1 x2 x3 x4 x0 0 0 0 0).bind fun r134 =>
  bif r134.2.1 then
    bif ((decide (r134.2.2.2.2.2.2.2.1 = r134.2.2.1)) && ((decide (r134.2.2.2.2.2.2.2.2.1 = r134.2.2.2.1)) && ((decide (r134.2.2.2.2.2.2.2.2.2.1 = r134.2.2.2.2.1)) && ((decide (r134.2.2.2.2.2.2.2.2.2.2.1 = r134.2.2.2.2.2.1)) && (decide (r134.2.2.2.2.2.2.2.2.2.2.2 = r134.2.2.2.2.2.2.1)))))) then
      (f_impl_from r134.2.2.2.1 0 3).bind fun y135 =>
      bif y135 then
        (f_impl_from r134.2.2.2.2.1 0 3).bind fun y136 =>
        bif y136 then
          (f_impl_from r134.2.2.2.2.2.1 0 3).bind fun y137 =>
          bif y137 then
            (f_impl_from r134.2.2.2.2.2.2.1 0 63).bind fun y138 =>
            some y138
          else
            some false
        else
          some false
      else
        some false
    else
      some false
  else
    some false
noncomputable def C130 : Con := ⟨[(.B, true, [(.int .i64), (.int .i64), (.int .i64), (.int .i64), (.int .i64)])], [(false, [.bool])], [(.int .i64), (.int .i64), (.int .i64), (.int .i64), (.int .i64)], [.bool], fun (p : Int × Int × Int × Int × Int) => f_impl_InsOk p.1 p.2.1 p.2.2.1 p.2.2.2.1 p.2.2.2.2⟩
noncomputable def f_impl_InsOk.l0.c : LoopCon := ⟨1000, 6, [1, 2, 3, 4, 5, 17, 18], ⟨[(1, .ptr 1000 0), (2, .bool false), (3, .str ⟨#[]⟩), (4, .bool false), (5, .ptr 1001 0), (17, .int .i64 0), (18, .int .i64 0)], [(1000, .box [.int .i64 0, .int .i64 0, .int .i64 0, .int .i64 0, .int .i64 0]), (1001, .box [.int .i64 0, .int .i64 0, .int .i64 0, .int .i64 0, .int .i64 0])], 1002⟩, [.bool, .str, .bool, (.int .i64), (.int .i64), (.int .i64), (.int .i64), (.int .i64), (.int .i64), (.int .i64), (.int .i64), (.int .i64), (.int .i64), (.int .i64), (.int .i64)], [⟨.exit 0, [1, 2, 4, 5], ⟨[(1, .ptr 1000 0), (2, .bool false), (4, .bool false), (5, .ptr 1001 0)], [(1000, .box [.int .i64 0, .int .i64 0, .int .i64 0, .int .i64 0, .int .i64 0]), (1001, .box [.int .i64 0, .int .i64 0, .int .i64 0, .int .i64 0, .int .i64 0])], 1002⟩, [.bool, .bool, (.int .i64), (.int .i64), (.int .i64), (.int .i64), (.int .i64), (.int .i64), (.int .i64), (.int .i64), (.int .i64), (.int .i64)]⟩], fun (p : Bool × ByteArray × Bool × Int × Int × Int × Int × Int × Int × Int × Int × Int × Int × Int × Int) => f_impl_InsOk.l0 N p.1 p.2.1 p.2.2.1 p.2.2.2.1 p.2.2.2.2.1 p.2.2.2.2.2.1 p.2.2.2.2.2.2.1 p.2.2.2.2.2.2.2.1 p.2.2.2.2.2.2.2.2.1 p.2.2.2.2.2.2.2.2.2.1 p.2.2.2.2.2.2.2.2.2.2.1 p.2.2.2.2.2.2.2.2.2.2.2.1 p.2.2.2.2.2.2.2.2.2.2.2.2.1 p.2.2.2.2.2.2.2.2.2.2.2.2.2.1 p.2.2.2.2.2.2.2.2.2.2.2.2.2.2⟩
noncomputable abbrev K130 : Cons := [(103, C103), (184, C184)]
noncomputable abbrev L130 : List (Nat × Loops) := [(130, [(4, f_impl_InsOk.l0.c)])]
abbrev Q130 : List (Nat × List (Int × Nat) × Nat) := [(185, [(82, 1), (65, 2), (66, 3)], 4)]
noncomputable abbrev X130 : Nat → Ctx := ctxOf tb K130 L130 Q130
theorem f_impl_InsOk.l0.ok : ∀ n p, (fun (p : Bool × ByteArray × Bool × Int × Int × Int × Int × Int × Int × Int × Int × Int × Int × Int × Int) => f_impl_InsOk.l0 n p.1 p.2.1 p.2.2.1 p.2.2.2.1 p.2.2.2.2.1 p.2.2.2.2.2.1 p.2.2.2.2.2.2.1 p.2.2.2.2.2.2.2.1 p.2.2.2.2.2.2.2.2.1 p.2.2.2.2.2.2.2.2.2.1 p.2.2.2.2.2.2.2.2.2.2.1 p.2.2.2.2.2.2.2.2.2.2.2.1 p.2.2.2.2.2.2.2.2.2.2.2.2.1 p.2.2.2.2.2.2.2.2.2.2.2.2.2.1 p.2.2.2.2.2.2.2.2.2.2.2.2.2.2) p = iterD (roundOf fs X130 6 130 4 false f_impl_InsOk.l0.c) n p :=
  iter_of (l := fun n => fun (p : Bool × ByteArray × Bool × Int × Int × Int × Int × Int × Int × Int × Int × Int × Int × Int × Int) => f_impl_InsOk.l0 n p.1 p.2.1 p.2.2.1 p.2.2.2.1 p.2.2.2.2.1 p.2.2.2.2.2.1 p.2.2.2.2.2.2.1 p.2.2.2.2.2.2.2.1 p.2.2.2.2.2.2.2.2.1 p.2.2.2.2.2.2.2.2.2.1 p.2.2.2.2.2.2.2.2.2.2.1 p.2.2.2.2.2.2.2.2.2.2.2.1 p.2.2.2.2.2.2.2.2.2.2.2.2.1 p.2.2.2.2.2.2.2.2.2.2.2.2.2.1 p.2.2.2.2.2.2.2.2.2.2.2.2.2.2) (fun _ => rfl) (fun n p => by kernel_rfl)
theorem E130 : ∀ x, funRun fs X130 6 130 C130 x = C130.fn x := fun x => by kernel_rfl
theorem B130 : ConB Try.prog 130 C130 := ConB.make FS MIX TY (cons := K130) (L := L130) (ptrs := Q130) ⟨S103, S184, trivial⟩ ⟨PT185, trivial⟩ ⟨⟨⟨N, fun p => f_impl_InsOk.l0.ok N p⟩, trivial⟩, trivial⟩ rfl rfl E130
theorem S130 : ConS Try.prog 130 C130 := B130.call rfl
/-! impl.Decode: function 63 -/
noncomputable def f_impl_Decode (x0 : Int) : Option (Int × Int × Int × Int × Int × Bool) :=
  (f_impl_isWord x0).bind fun y139 =>
  bif (!y139) then
    some (0, 0, 0, 0, 0, false)
  else
    (f_impl_InsOk (Int.tmod x0 (16 : Int)) (Int.tmod (IntKind.wrap .i64 (Int.tdiv x0 (16 : Int))) (4 : Int)) (Int.tmod (IntKind.wrap .i64 (Int.tdiv x0 (64 : Int))) (4 : Int)) (Int.tmod (IntKind.wrap .i64 (Int.tdiv x0 (256 : Int))) (4 : Int)) (IntKind.wrap .i64 (Int.tdiv x0 (1024 : Int)))).bind fun y140 =>
    bif (!y140) then
      some (0, 0, 0, 0, 0, false)
    else
      some ((Int.tmod x0 (16 : Int)), (Int.tmod (IntKind.wrap .i64 (Int.tdiv x0 (16 : Int))) (4 : Int)), (Int.tmod (IntKind.wrap .i64 (Int.tdiv x0 (64 : Int))) (4 : Int)), (Int.tmod (IntKind.wrap .i64 (Int.tdiv x0 (256 : Int))) (4 : Int)), (IntKind.wrap .i64 (Int.tdiv x0 (1024 : Int))), true)
noncomputable def C63 : Con := ⟨[(.B, false, [(.int .i64)])], [(true, [(.int .i64), (.int .i64), (.int .i64), (.int .i64), (.int .i64)]), (false, [.bool])], [(.int .i64)], [(.int .i64), (.int .i64), (.int .i64), (.int .i64), (.int .i64), .bool], fun (p : Int) => f_impl_Decode p⟩
noncomputable abbrev K63 : Cons := [(130, C130), (137, C137)]
noncomputable abbrev L63 : List (Nat × Loops) := []
abbrev Q63 : List (Nat × List (Int × Nat) × Nat) := []
noncomputable abbrev X63 : Nat → Ctx := ctxOf tb K63 L63 Q63
theorem E63 : ∀ x, funRun fs X63 6 63 C63 x = C63.fn x := fun x => by kernel_rfl
theorem B63 : ConB Try.prog 63 C63 := ConB.make FS MIX TY (cons := K63) (L := L63) (ptrs := Q63) ⟨S130, S137, trivial⟩ trivial trivial rfl rfl E63
theorem S63 : ConS Try.prog 63 C63 := B63.call rfl
/-! impl.aims: function 204 -/
noncomputable def f_impl_aims (x0 : Int) (x1 : Int) (x2 : Int) (x3 : Int) (x4 : Int) : Option (Bool) :=
  bif (decide (x0 = (4 : Int))) then
    some true
  else
    bif (decide (x0 = (5 : Int))) then
      some true
    else
      some (decide (x0 = (6 : Int)))
noncomputable def C204 : Con := ⟨[(.B, true, [(.int .i64), (.int .i64), (.int .i64), (.int .i64), (.int .i64)])], [(false, [.bool])], [(.int .i64), (.int .i64), (.int .i64), (.int .i64), (.int .i64)], [.bool], fun (p : Int × Int × Int × Int × Int) => f_impl_aims p.1 p.2.1 p.2.2.1 p.2.2.2.1 p.2.2.2.2⟩
noncomputable abbrev K204 : Cons := []
noncomputable abbrev L204 : List (Nat × Loops) := []
abbrev Q204 : List (Nat × List (Int × Nat) × Nat) := []
noncomputable abbrev X204 : Nat → Ctx := ctxOf tb K204 L204 Q204
theorem E204 : ∀ x, funRun fs X204 6 204 C204 x = C204.fn x := fun x => by kernel_rfl
theorem B204 : ConB Try.prog 204 C204 := ConB.make FS MIX TY (cons := K204) (L := L204) (ptrs := Q204) trivial trivial trivial rfl rfl E204
theorem S204 : ConS Try.prog 204 C204 := B204.call rfl
/-! impl.address: function 205 -/
noncomputable def f_impl_address (x0 : Int) : Option (Int) :=
  some (Int.tmod (IntKind.wrap .i64 ((Int.tmod x0 (24 : Int)) + (24 : Int))) (24 : Int))
noncomputable def C205 : Con := ⟨[(.B, false, [(.int .i64)])], [(false, [(.int .i64)])], [(.int .i64)], [(.int .i64)], fun (p : Int) => f_impl_address p⟩
noncomputable abbrev K205 : Cons := []
noncomputable abbrev L205 : List (Nat × Loops) := []
abbrev Q205 : List (Nat × List (Int × Nat) × Nat) := []
noncomputable abbrev X205 : Nat → Ctx := ctxOf tb K205 L205 Q205
theorem E205 : ∀ x, funRun fs X205 6 205 C205 x = C205.fn x := fun x => by kernel_rfl
theorem B205 : ConB Try.prog 205 C205 := ConB.make FS MIX TY (cons := K205) (L := L205) (ptrs := Q205) trivial trivial trivial rfl rfl E205
theorem S205 : ConS Try.prog 205 C205 := B205.call rfl
/-! impl.Target: function 175 -/
noncomputable def f_impl_Target (x0 : Int) (x1 : Int) (x2 : Int) (x3 : Int) (x4 : Int) (x5 : List Int) : Option (Int) :=
  (f_impl_InsOk x0 x1 x2 x3 x4).bind fun y141 =>
  bif (!y141) then
    some (-1)
  else
    (f_impl_aims x0 x1 x2 x3 x4).bind fun y142 =>
    bif (!y142) then
      some (-1)
    else
      bif (!(decide ((x5.length : Int) = (4 : Int)))) then
        some (-1)
      else
        bif ((decide ((0 : Int) ≤ x2)) && (decide (x2 < (x5.length : Int)))) then
        (f_impl_address (IntKind.wrap .i64 ((x5.getD x2.toNat 0) + x4))).bind fun y143 =>
        some y143
        else none
noncomputable def C175 : Con := ⟨[(.B, true, [(.int .i64), (.int .i64), (.int .i64), (.int .i64), (.int .i64)]), (.B, false, [(.sl R0)])], [(false, [(.int .i64)])], [(.int .i64), (.int .i64), (.int .i64), (.int .i64), (.int .i64), (.sl R0)], [(.int .i64)], fun (p : Int × Int × Int × Int × Int × List Int) => f_impl_Target p.1 p.2.1 p.2.2.1 p.2.2.2.1 p.2.2.2.2.1 p.2.2.2.2.2⟩
noncomputable abbrev K175 : Cons := [(130, C130), (204, C204), (205, C205)]
noncomputable abbrev L175 : List (Nat × Loops) := []
abbrev Q175 : List (Nat × List (Int × Nat) × Nat) := []
noncomputable abbrev X175 : Nat → Ctx := ctxOf tb K175 L175 Q175
theorem E175 : ∀ x, funRun fs X175 6 175 C175 x = C175.fn x := fun x => by kernel_rfl
theorem B175 : ConB Try.prog 175 C175 := ConB.make FS MIX TY (cons := K175) (L := L175) (ptrs := Q175) ⟨S130, S204, S205, trivial⟩ trivial trivial rfl rfl E175
theorem S175 : ConS Try.prog 175 C175 := B175.call rfl
/-! impl.wrapped: function 206 -/
noncomputable def f_impl_wrapped (x0 : Int) : Option (Int) :=
  some (Int.tmod (IntKind.wrap .i64 ((IntKind.wrap .i64 ((Int.tmod x0 (65536 : Int)) + (65535 : Int))) + (1 : Int))) (65536 : Int))
noncomputable def C206 : Con := ⟨[(.B, false, [(.int .i64)])], [(false, [(.int .i64)])], [(.int .i64)], [(.int .i64)], fun (p : Int) => f_impl_wrapped p⟩
noncomputable abbrev K206 : Cons := []
noncomputable abbrev L206 : List (Nat × Loops) := []
abbrev Q206 : List (Nat × List (Int × Nat) × Nat) := []
noncomputable abbrev X206 : Nat → Ctx := ctxOf tb K206 L206 Q206
theorem E206 : ∀ x, funRun fs X206 6 206 C206 x = C206.fn x := fun x => by kernel_rfl
theorem B206 : ConB Try.prog 206 C206 := ConB.make FS MIX TY (cons := K206) (L := L206) (ptrs := Q206) trivial trivial trivial rfl rfl E206
theorem S206 : ConS Try.prog 206 C206 := B206.call rfl
/-! impl.Work: function 176 -/
noncomputable def f_impl_Work (x0 : List Int) (x1 : Int) (x2 : Int) (x3 : Int) (x4 : Int) (x5 : Int) (x6 : Int) (x7 : Int) (x8 : Int) : Option (List Int × Int × Int × Int) :=
  (f_impl_copyHart x0 x1 x2).bind fun y144 =>
  (f_impl_HartOk y144.1 y144.2.1 y144.2.2).bind fun y145 =>
  bif (!y145) then
    some (y144.1, y144.2.1, y144.2.2, -1)
  else
    bif (!(decide (y144.2.2 = (0 : Int)))) then
      some (y144.1, y144.2.1, y144.2.2, -1)
    else
      (f_impl_isWord x8).bind fun y146 =>
      bif (!y146) then
        some (y144.1, y144.2.1, y144.2.2, -1)
      else
        (f_impl_InsOk x3 x4 x5 x6 x7).bind fun y147 =>
        bif (!y147) then
          some (y144.1, y144.2.1, 2, -1)
        else
          bif ((decide ((0 : Int) ≤ x5)) && (decide (x5 < (y144.1.length : Int)))) then
          bif ((decide ((0 : Int) ≤ x6)) && (decide (x6 < (y144.1.length : Int)))) then
          (f_impl_address (IntKind.wrap .i64 (y144.2.1 + (1 : Int)))).bind fun y148 =>
          bif (decide (x3 = (1 : Int))) then
            bif ((decide ((0 : Int) ≤ x4)) && (decide (x4 < (y144.1.length : Int)))) then
            (some ((y144.1.set x4.toNat x7) : List Int)).bind fun z149 =>
            some (z149, y148, y144.2.2, -1)
            else none
          else
            bif (decide (x3 = (2 : Int))) then
              (f_impl_wrapped (IntKind.wrap .i64 ((y144.1.getD x5.toNat 0) + (y144.1.getD x6.toNat 0)))).bind fun y150 =>
              bif ((decide ((0 : Int) ≤ x4)) && (decide (x4 < (y144.1.length : Int)))) then
              (some ((y144.1.set x4.toNat y150) : List Int)).bind fun z151 =>
              some (z151, y148, y144.2.2, -1)
              else none
            else
              bif (decide (x3 = (10 : Int))) then
                (f_impl_wrapped (IntKind.wrap .i64 ((y144.1.getD x5.toNat 0) - (y144.1.getD x6.toNat 0)))).bind fun y152 =>
                bif ((decide ((0 : Int) ≤ x4)) && (decide (x4 < (y144.1.length : Int)))) then
                (some ((y144.1.set x4.toNat y152) : List Int)).bind fun z153 =>
                some (z153, y148, y144.2.2, -1)
                else none
              else
                bif (decide (x3 = (3 : Int))) then
                  (f_impl_wrapped (IntKind.wrap .i64 ((y144.1.getD x5.toNat 0) + x7))).bind fun y154 =>
                  bif ((decide ((0 : Int) ≤ x4)) && (decide (x4 < (y144.1.length : Int)))) then
                  (some ((y144.1.set x4.toNat y154) : List Int)).bind fun z155 =>
                  some (z155, y148, y144.2.2, -1)
                  else none
                else
                  bif (decide (x3 = (4 : Int))) then
                    bif ((decide ((0 : Int) ≤ x4)) && (decide (x4 < (y144.1.length : Int)))) then
                    (some ((y144.1.set x4.toNat x8) : List Int)).bind fun z156 =>
                    some (z156, y148, y144.2.2, -1)
                    else none
                  else
                    bif (decide (x3 = (5 : Int))) then
                      some (y144.1, y148, y144.2.2, (y144.1.getD x6.toNat 0))
                    else
                      bif (decide (x3 = (6 : Int))) then
                        bif ((decide ((0 : Int) ≤ x4)) && (decide (x4 < (y144.1.length : Int)))) then
                        (some ((y144.1.set x4.toNat x8) : List Int)).bind fun z157 =>
                        (f_impl_wrapped (IntKind.wrap .i64 (x8 + (y144.1.getD x6.toNat 0)))).bind fun y158 =>
                        some (z157, y148, y144.2.2, y158)
                        else none
                      else
                        bif (decide (x3 = (7 : Int))) then
                          bif (decide ((y144.1.getD x5.toNat 0) = (0 : Int))) then
                            (f_impl_address x7).bind fun y159 =>
                            some (y144.1, y159, y144.2.2, -1)
                          else
                            some (y144.1, y148, y144.2.2, -1)
                        else
                          bif (decide (x3 = (8 : Int))) then
                            (f_impl_address x7).bind fun y160 =>
                            some (y144.1, y160, y144.2.2, -1)
                          else
                            bif (decide (x3 = (9 : Int))) then
                              some (y144.1, y144.2.1, 1, -1)
                            else
                              some (y144.1, y148, y144.2.2, -1)
          else none
          else none
noncomputable def C176 : Con := ⟨[(.B, true, [(.sl R0), (.int .i64), (.int .i64)]), (.B, true, [(.int .i64), (.int .i64), (.int .i64), (.int .i64), (.int .i64)]), (.B, false, [(.int .i64)])], [(true, [(.sl R0), (.int .i64), (.int .i64)]), (false, [(.int .i64)])], [(.sl R0), (.int .i64), (.int .i64), (.int .i64), (.int .i64), (.int .i64), (.int .i64), (.int .i64), (.int .i64)], [(.sl R0), (.int .i64), (.int .i64), (.int .i64)], fun (p : List Int × Int × Int × Int × Int × Int × Int × Int × Int) => f_impl_Work p.1 p.2.1 p.2.2.1 p.2.2.2.1 p.2.2.2.2.1 p.2.2.2.2.2.1 p.2.2.2.2.2.2.1 p.2.2.2.2.2.2.2.1 p.2.2.2.2.2.2.2.2⟩
noncomputable abbrev K176 : Cons := [(130, C130), (137, C137), (173, C173), (174, C174), (205, C205), (206, C206)]
noncomputable abbrev L176 : List (Nat × Loops) := []
abbrev Q176 : List (Nat × List (Int × Nat) × Nat) := []
noncomputable abbrev X176 : Nat → Ctx := ctxOf tb K176 L176 Q176
theorem E176 : ∀ x, funRun fs X176 6 176 C176 x = C176.fn x := fun x => by kernel_rfl
theorem B176 : ConB Try.prog 176 C176 := ConB.make FS MIX TY (cons := K176) (L := L176) (ptrs := Q176) ⟨S130, S137, S173, S174, S205, S206, trivial⟩ trivial trivial rfl rfl E176
theorem S176 : ConS Try.prog 176 C176 := B176.call rfl
/-! impl.step: function 105 -/
noncomputable def f_impl_step (x0 : List Int) (x1 : List Int) (x2 : Int) (x3 : Int) : Option (List Int × Int × Int × List Int) :=
  bif ((decide ((0 : Int) ≤ x2)) && (decide (x2 < (x0.length : Int)))) then
  (f_impl_Decode (x0.getD x2.toNat 0)).bind fun y161 =>
  (f_impl_Target y161.1 y161.2.1 y161.2.2.1 y161.2.2.2.1 y161.2.2.2.2.1 x1).bind fun y162 =>
  bif (decide ((0 : Int) ≤ y162)) then
    bif ((decide ((0 : Int) ≤ y162)) && (decide (y162 < (x0.length : Int)))) then
    (f_impl_Work x1 x2 x3 y161.1 y161.2.1 y161.2.2.1 y161.2.2.2.1 y161.2.2.2.2.1 (x0.getD y162.toNat 0)).bind fun y163 =>
    bif (decide ((0 : Int) ≤ y163.2.2.2)) then
      bif ((decide ((0 : Int) ≤ y162)) && (decide (y162 < (x0.length : Int)))) then
      (some ((x0.set y162.toNat y163.2.2.2) : List Int)).bind fun z164 =>
      some (y163.1, y163.2.1, y163.2.2.1, z164)
      else none
    else
      some (y163.1, y163.2.1, y163.2.2.1, x0)
    else none
  else
    (f_impl_Work x1 x2 x3 y161.1 y161.2.1 y161.2.2.1 y161.2.2.2.1 y161.2.2.2.2.1 0).bind fun y165 =>
    bif (decide ((0 : Int) ≤ y165.2.2.2)) then
      bif ((decide ((0 : Int) ≤ y162)) && (decide (y162 < (x0.length : Int)))) then
      (some ((x0.set y162.toNat y165.2.2.2) : List Int)).bind fun z166 =>
      some (y165.1, y165.2.1, y165.2.2.1, z166)
      else none
    else
      some (y165.1, y165.2.1, y165.2.2.1, x0)
  else none
noncomputable def C105 : Con := ⟨[(.I, false, [(.sl R0)]), (.B, true, [(.sl R0), (.int .i64), (.int .i64)])], [(true, [(.sl R0), (.int .i64), (.int .i64)])], [(.sl R0), (.sl R0), (.int .i64), (.int .i64)], [(.sl R0), (.int .i64), (.int .i64), (.sl R0)], fun (p : List Int × List Int × Int × Int) => f_impl_step p.1 p.2.1 p.2.2.1 p.2.2.2⟩
noncomputable abbrev K105 : Cons := [(63, C63), (175, C175), (176, C176)]
noncomputable abbrev L105 : List (Nat × Loops) := []
abbrev Q105 : List (Nat × List (Int × Nat) × Nat) := []
noncomputable abbrev X105 : Nat → Ctx := ctxOf tb K105 L105 Q105
theorem E105 : ∀ x, funG fs X105 6 105 C105 x = C105.fn x := fun x => by kernel_rfl
theorem B105 : ConG Try.prog 105 C105 := ConG.make FS MIX TY (cons := K105) (L := L105) (ptrs := Q105) ⟨S63, S175, S176, trivial⟩ trivial trivial rfl (by kernel_rfl) E105
theorem S105 : ConS Try.prog 105 C105 := B105.call (by kernel_rfl)
/-! impl.FlatRun: function 19 -/
noncomputable def f_impl_FlatRun.l0 : Nat → (List Int) → Int → Int → (List Int) → (List (List Int × Int × Int)) → Option (List Int × (List (List Int × Int × Int)))
  | 0, _, _, _, _, _ => none
  | n + 1, p170, p171, p172, p173, p174 =>
    bif (decide (p172 < p171)) then
      bif ((decide ((0 : Int) ≤ p172)) && (decide (p172 < (p170.length : Int)))) then
      (f_impl_from (p170.getD p172.toNat 0) 0 (IntKind.wrap .i64 ((p174.length : Int) - (1 : Int)))).bind fun y175 =>
      bif y175 then
        bif ((decide ((0 : Int) ≤ (p170.getD p172.toNat 0))) && (decide ((p170.getD p172.toNat 0) < (p174.length : Int)))) then
        (f_impl_goes ((p174.getD (p170.getD p172.toNat 0).toNat ([], 0, 0)).1) ((p174.getD (p170.getD p172.toNat 0).toNat ([], 0, 0)).2.1) ((p174.getD (p170.getD p172.toNat 0).toNat ([], 0, 0)).2.2)).bind fun y176 =>
        bif y176 then
          bif ((decide ((0 : Int) ≤ (p170.getD p172.toNat 0))) && (decide ((p170.getD p172.toNat 0) < (p174.length : Int)))) then
          (f_impl_step p173 ((p174.getD (p170.getD p172.toNat 0).toNat ([], 0, 0)).1) ((p174.getD (p170.getD p172.toNat 0).toNat ([], 0, 0)).2.1) ((p174.getD (p170.getD p172.toNat 0).toNat ([], 0, 0)).2.2)).bind fun y177 =>
          (some (y177.2.2.2 : List Int)).bind fun z178 =>
          bif ((decide ((0 : Int) ≤ (p170.getD p172.toNat 0))) && (decide ((p170.getD p172.toNat 0) < (p174.length : Int)))) then
          (some ((p174.set (p170.getD p172.toNat 0).toNat (y177.1, y177.2.1, y177.2.2.1)) : List (List Int × Int × Int))).bind fun z179 =>
          f_impl_FlatRun.l0 n p170 p171 (IntKind.wrap .i64 (p172 + (1 : Int))) z178 z179
          else none
          else none
        else
          f_impl_FlatRun.l0 n p170 p171 (IntKind.wrap .i64 (p172 + (1 : Int))) p173 p174
        else none
      else
        f_impl_FlatRun.l0 n p170 p171 (IntKind.wrap .i64 (p172 + (1 : Int))) p173 p174
      else none
    else
      some (p173, p174)
noncomputable def f_impl_FlatRun (x0 : List Int) (x1 : List (List Int × Int × Int)) (x2 : List Int) : Option (List Int × (List (List Int × Int × Int))) :=
  (f_slices_Clone_int_int x0).bind fun y167 =>
  (f_impl_copyHarts x1).bind fun y168 =>
  bif (decide ((2000 : Int) < (x2.length : Int))) then
    some (y167, y168)
  else
    (f_impl_memOk y167).bind fun y169 =>
    bif (!y169) then
      some (y167, y168)
    else
      (f_impl_FlatRun.l0 N x2 (x2.length : Int) 0 y167 y168).bind fun r180 =>
      some (r180.1, r180.2)
noncomputable def C19 : Con := ⟨[(.B, false, [(.sl R0)]), (.B, false, [(.sl R1)]), (.B, false, [(.sl R0)])], [(false, [(.sl R0)]), (false, [(.sl R1)])], [(.sl R0), (.sl R1), (.sl R0)], [(.sl R0), (.sl R1)], fun (p : List Int × (List (List Int × Int × Int)) × List Int) => f_impl_FlatRun p.1 p.2.1 p.2.2⟩
noncomputable def f_impl_FlatRun.l0.c : LoopCon := ⟨1000, 6, [0, 1, 6, 7, 24, 25, 26], ⟨[(0, .ref 1000 [] none), (1, .ref 1001 [] none), (6, .nil (some R0)), (7, .nil (some R1)), (24, .bor none R0 []), (25, .int .i64 0), (26, .int .i64 0)], [(1000, .row R0 []), (1001, .row R1 [])], 1002⟩, [(.sl R0), (.int .i64), (.int .i64), (.sl R0), (.sl R1)], [⟨.exit 0, [0, 1, 6, 7], ⟨[(0, .ref 1000 [] none), (1, .ref 1001 [] none), (6, .nil (some R0)), (7, .nil (some R1))], [(1000, .row R0 []), (1001, .row R1 [])], 1002⟩, [(.sl R0), (.sl R1)]⟩], fun (p : List Int × Int × Int × List Int × (List (List Int × Int × Int))) => f_impl_FlatRun.l0 N p.1 p.2.1 p.2.2.1 p.2.2.2.1 p.2.2.2.2⟩
noncomputable abbrev K19 : Cons := [(100, C100), (101, C101), (102, C102), (103, C103), (104, C104), (105, C105)]
noncomputable abbrev L19 : List (Nat × Loops) := [(19, [(6, f_impl_FlatRun.l0.c)])]
abbrev Q19 : List (Nat × List (Int × Nat) × Nat) := []
noncomputable abbrev X19 : Nat → Ctx := ctxOf tb K19 L19 Q19
theorem f_impl_FlatRun.l0.ok : ∀ n p, (fun (p : List Int × Int × Int × List Int × (List (List Int × Int × Int))) => f_impl_FlatRun.l0 n p.1 p.2.1 p.2.2.1 p.2.2.2.1 p.2.2.2.2) p = iterD (roundOf fs X19 6 19 6 false f_impl_FlatRun.l0.c) n p :=
  iter_of (l := fun n => fun (p : List Int × Int × Int × List Int × (List (List Int × Int × Int))) => f_impl_FlatRun.l0 n p.1 p.2.1 p.2.2.1 p.2.2.2.1 p.2.2.2.2) (fun _ => rfl) (fun n p => by kernel_rfl)
theorem E19 : ∀ x, funRun fs X19 6 19 C19 x = C19.fn x := fun x => by kernel_rfl
theorem B19 : ConB Try.prog 19 C19 := ConB.make FS MIX TY (cons := K19) (L := L19) (ptrs := Q19) ⟨S100, S101, S102, S103, S104, S105, trivial⟩ trivial ⟨⟨⟨N, fun p => f_impl_FlatRun.l0.ok N p⟩, trivial⟩, trivial⟩ rfl rfl E19
theorem S19 : ConS Try.prog 19 C19 := B19.call rfl
/-! laws.eqIntS: function 20 -/
noncomputable def f_laws_eqIntS.l0 : Nat → (List Int) → (List Int) → Bool → Int → Option ((Bool) ⊕ (Bool))
  | 0, _, _, _, _ => none
  | n + 1, p181, p182, p183, p184 =>
    bif (decide (p184 < (p181.length : Int))) then
      bif ((decide ((0 : Int) ≤ p184)) && (decide (p184 < (p181.length : Int)))) then
      bif ((decide ((0 : Int) ≤ p184)) && (decide (p184 < (p182.length : Int)))) then
      bif (!(decide ((p181.getD p184.toNat 0) = (p182.getD p184.toNat 0)))) then
        some (.inl false)
      else
        f_laws_eqIntS.l0 n p181 p182 p183 (IntKind.wrap .i64 (p184 + (1 : Int)))
      else none
      else none
    else
      some (.inr p183)
noncomputable def f_laws_eqIntS (x0 : List Int) (x1 : List Int) : Option (Bool) :=
  bif (!(decide ((x0.length : Int) = (x1.length : Int)))) then
    some false
  else
    (f_laws_eqIntS.l0 N x0 x1 false 0).bind fun r185 =>
    cs r185 (fun a186 =>
      some a186) (fun b187 =>
      some true)
noncomputable def C20 : Con := ⟨[(.B, false, [(.sl R0)]), (.B, false, [(.sl R0)])], [(false, [.bool])], [(.sl R0), (.sl R0)], [.bool], fun (p : List Int × List Int) => f_laws_eqIntS p.1 p.2⟩
noncomputable def f_laws_eqIntS.l0.c : LoopCon := ⟨1000, 6, [0, 1, 4, 5], ⟨[(0, .bor none R0 []), (1, .bor none R0 []), (4, .bool false), (5, .int .i64 0)], [], 1000⟩, [(.sl R0), (.sl R0), .bool, (.int .i64)], [⟨.ret, [4], ⟨[(4, .bool false)], [], 1000⟩, [.bool]⟩, ⟨.exit 0, [4], ⟨[(4, .bool false)], [], 1000⟩, [.bool]⟩], fun (p : List Int × List Int × Bool × Int) => f_laws_eqIntS.l0 N p.1 p.2.1 p.2.2.1 p.2.2.2⟩
noncomputable abbrev K20 : Cons := []
noncomputable abbrev L20 : List (Nat × Loops) := [(20, [(4, f_laws_eqIntS.l0.c)])]
abbrev Q20 : List (Nat × List (Int × Nat) × Nat) := []
noncomputable abbrev X20 : Nat → Ctx := ctxOf tb K20 L20 Q20
theorem f_laws_eqIntS.l0.ok : ∀ n p, (fun (p : List Int × List Int × Bool × Int) => f_laws_eqIntS.l0 n p.1 p.2.1 p.2.2.1 p.2.2.2) p = iterD (roundOf fs X20 6 20 4 false f_laws_eqIntS.l0.c) n p :=
  iter_of (l := fun n => fun (p : List Int × List Int × Bool × Int) => f_laws_eqIntS.l0 n p.1 p.2.1 p.2.2.1 p.2.2.2) (fun _ => rfl) (fun n p => by kernel_rfl)
theorem E20 : ∀ x, funRun fs X20 6 20 C20 x = C20.fn x := fun x => by kernel_rfl
theorem B20 : ConB Try.prog 20 C20 := ConB.make FS MIX TY (cons := K20) (L := L20) (ptrs := Q20) trivial trivial ⟨⟨⟨N, fun p => f_laws_eqIntS.l0.ok N p⟩, trivial⟩, trivial⟩ rfl rfl E20
theorem S20 : ConS Try.prog 20 C20 := B20.call rfl
/-! laws.eqHart: function 106 -/
noncomputable def f_laws_eqHart (x0 : List Int) (x1 : Int) (x2 : Int) (x3 : List Int) (x4 : Int) (x5 : Int) : Option (Bool) :=
  (f_laws_eqIntS x0 x3).bind fun y188 =>
  bif (!y188) then
    some false
  else
    bif (!(decide (x1 = x4))) then
      some false
    else
      bif (!(decide (x2 = x5))) then
        some false
      else
        some true
noncomputable def C106 : Con := ⟨[(.B, true, [(.sl R0), (.int .i64), (.int .i64)]), (.B, true, [(.sl R0), (.int .i64), (.int .i64)])], [(false, [.bool])], [(.sl R0), (.int .i64), (.int .i64), (.sl R0), (.int .i64), (.int .i64)], [.bool], fun (p : List Int × Int × Int × List Int × Int × Int) => f_laws_eqHart p.1 p.2.1 p.2.2.1 p.2.2.2.1 p.2.2.2.2.1 p.2.2.2.2.2⟩
noncomputable abbrev K106 : Cons := [(20, C20)]
noncomputable abbrev L106 : List (Nat × Loops) := []
abbrev Q106 : List (Nat × List (Int × Nat) × Nat) := []
noncomputable abbrev X106 : Nat → Ctx := ctxOf tb K106 L106 Q106
theorem E106 : ∀ x, funRun fs X106 6 106 C106 x = C106.fn x := fun x => by kernel_rfl
theorem B106 : ConB Try.prog 106 C106 := ConB.make FS MIX TY (cons := K106) (L := L106) (ptrs := Q106) ⟨S20, trivial⟩ trivial trivial rfl rfl E106
theorem S106 : ConS Try.prog 106 C106 := B106.call rfl
/-! laws.eqHartS: function 21 -/
noncomputable def f_laws_eqHartS.l0 : Nat → (List (List Int × Int × Int)) → (List (List Int × Int × Int)) → Bool → Int → Option ((Bool) ⊕ (Bool))
  | 0, _, _, _, _ => none
  | n + 1, p189, p190, p191, p192 =>
    bif (decide (p192 < (p189.length : Int))) then
      bif ((decide ((0 : Int) ≤ p192)) && (decide (p192 < (p189.length : Int)))) then
      bif ((decide ((0 : Int) ≤ p192)) && (decide (p192 < (p190.length : Int)))) then
      (f_laws_eqHart ((p189.getD p192.toNat ([], 0, 0)).1) ((p189.getD p192.toNat ([], 0, 0)).2.1) ((p189.getD p192.toNat ([], 0, 0)).2.2) ((p190.getD p192.toNat ([], 0, 0)).1) ((p190.getD p192.toNat ([], 0, 0)).2.1) ((p190.getD p192.toNat ([], 0, 0)).2.2)).bind fun y193 =>
      bif (!y193) then
        some (.inl false)
      else
        f_laws_eqHartS.l0 n p189 p190 p191 (IntKind.wrap .i64 (p192 + (1 : Int)))
      else none
      else none
    else
      some (.inr p191)
noncomputable def f_laws_eqHartS (x0 : List (List Int × Int × Int)) (x1 : List (List Int × Int × Int)) : Option (Bool) :=
  bif (!(decide ((x0.length : Int) = (x1.length : Int)))) then
    some false
  else
    (f_laws_eqHartS.l0 N x0 x1 false 0).bind fun r194 =>
    cs r194 (fun a195 =>
      some a195) (fun b196 =>
      some true)
noncomputable def C21 : Con := ⟨[(.B, false, [(.sl R1)]), (.B, false, [(.sl R1)])], [(false, [.bool])], [(.sl R1), (.sl R1)], [.bool], fun (p : (List (List Int × Int × Int)) × (List (List Int × Int × Int))) => f_laws_eqHartS p.1 p.2⟩
noncomputable def f_laws_eqHartS.l0.c : LoopCon := ⟨1000, 6, [0, 1, 4, 5], ⟨[(0, .bor none R1 []), (1, .bor none R1 []), (4, .bool false), (5, .int .i64 0)], [], 1000⟩, [(.sl R1), (.sl R1), .bool, (.int .i64)], [⟨.ret, [4], ⟨[(4, .bool false)], [], 1000⟩, [.bool]⟩, ⟨.exit 0, [4], ⟨[(4, .bool false)], [], 1000⟩, [.bool]⟩], fun (p : (List (List Int × Int × Int)) × (List (List Int × Int × Int)) × Bool × Int) => f_laws_eqHartS.l0 N p.1 p.2.1 p.2.2.1 p.2.2.2⟩
noncomputable abbrev K21 : Cons := [(106, C106)]
noncomputable abbrev L21 : List (Nat × Loops) := [(21, [(4, f_laws_eqHartS.l0.c)])]
abbrev Q21 : List (Nat × List (Int × Nat) × Nat) := []
noncomputable abbrev X21 : Nat → Ctx := ctxOf tb K21 L21 Q21
theorem f_laws_eqHartS.l0.ok : ∀ n p, (fun (p : (List (List Int × Int × Int)) × (List (List Int × Int × Int)) × Bool × Int) => f_laws_eqHartS.l0 n p.1 p.2.1 p.2.2.1 p.2.2.2) p = iterD (roundOf fs X21 6 21 4 false f_laws_eqHartS.l0.c) n p :=
  iter_of (l := fun n => fun (p : (List (List Int × Int × Int)) × (List (List Int × Int × Int)) × Bool × Int) => f_laws_eqHartS.l0 n p.1 p.2.1 p.2.2.1 p.2.2.2) (fun _ => rfl) (fun n p => by kernel_rfl)
theorem E21 : ∀ x, funRun fs X21 6 21 C21 x = C21.fn x := fun x => by kernel_rfl
theorem B21 : ConB Try.prog 21 C21 := ConB.make FS MIX TY (cons := K21) (L := L21) (ptrs := Q21) ⟨S106, trivial⟩ trivial ⟨⟨⟨N, fun p => f_laws_eqHartS.l0.ok N p⟩, trivial⟩, trivial⟩ rfl rfl E21
theorem S21 : ConS Try.prog 21 C21 := B21.call rfl
/-! laws.markIntS: function 22 -/
noncomputable def f_laws_markIntS.l0 : Nat → Int → Int → Int → (List Int) → Option (Int × Int × List Int)
  | 0, _, _, _, _ => none
  | n + 1, p197, p198, p199, p200 =>
    bif (decide (p199 < (p200.length : Int))) then
      bif ((decide ((0 : Int) ≤ p199)) && (decide (p199 < (p200.length : Int)))) then
      (some ((p200.set p199.toNat p197) : List Int)).bind fun z201 =>
      f_laws_markIntS.l0 n (IntKind.wrap .i64 (p197 + (1 : Int))) p198 (IntKind.wrap .i64 (p199 + (1 : Int))) z201
      else none
    else
      some (p197, p198, p200)
noncomputable def f_laws_markIntS (x0 : List Int) (x1 : Int) : Option (Int × List Int) :=
  (f_laws_markIntS.l0 N x1 0 0 x0).bind fun r202 =>
  some (r202.1, r202.2.2)
noncomputable def C22 : Con := ⟨[(.I, false, [(.sl R0)]), (.B, false, [(.int .i64)])], [(false, [(.int .i64)])], [(.sl R0), (.int .i64)], [(.int .i64), (.sl R0)], fun (p : List Int × Int) => f_laws_markIntS p.1 p.2⟩
noncomputable def f_laws_markIntS.l0.c : LoopCon := ⟨1000, 6, [0, 1, 4, 5], ⟨[(0, .ref 0 [] none), (1, .int .i64 0), (4, .int .i64 0), (5, .int .i64 0)], [(0, .row R0 [])], 1000⟩, [(.int .i64), (.int .i64), (.int .i64), (.sl R0)], [⟨.exit 0, [1, 4], ⟨[(1, .int .i64 0), (4, .int .i64 0)], [(0, .row R0 [])], 1000⟩, [(.int .i64), (.int .i64), (.sl R0)]⟩], fun (p : Int × Int × Int × List Int) => f_laws_markIntS.l0 N p.1 p.2.1 p.2.2.1 p.2.2.2⟩
noncomputable abbrev K22 : Cons := []
noncomputable abbrev L22 : List (Nat × Loops) := [(22, [(2, f_laws_markIntS.l0.c)])]
abbrev Q22 : List (Nat × List (Int × Nat) × Nat) := []
noncomputable abbrev X22 : Nat → Ctx := ctxOf tb K22 L22 Q22
theorem f_laws_markIntS.l0.ok : ∀ n p, (fun (p : Int × Int × Int × List Int) => f_laws_markIntS.l0 n p.1 p.2.1 p.2.2.1 p.2.2.2) p = iterD (roundOf fs X22 6 22 2 false f_laws_markIntS.l0.c) n p :=
  iter_of (l := fun n => fun (p : Int × Int × Int × List Int) => f_laws_markIntS.l0 n p.1 p.2.1 p.2.2.1 p.2.2.2) (fun _ => rfl) (fun n p => by kernel_rfl)
theorem E22 : ∀ x, funG fs X22 6 22 C22 x = C22.fn x := fun x => by kernel_rfl
theorem B22 : ConG Try.prog 22 C22 := ConG.make FS MIX TY (cons := K22) (L := L22) (ptrs := Q22) trivial trivial ⟨⟨⟨N, fun p => f_laws_markIntS.l0.ok N p⟩, trivial⟩, trivial⟩ rfl (by kernel_rfl) E22
theorem S22 : ConS Try.prog 22 C22 := B22.call (by kernel_rfl)
/-! laws.markHartS: function 23 -/
noncomputable def f_laws_markHartS.l0 : Nat → Int → Int → Int → (List (List Int × Int × Int)) → Option (Int × Int × (List (List Int × Int × Int)))
  | 0, _, _, _, _ => none
  | n + 1, p203, p204, p205, p206 =>
    bif (decide (p205 < (p206.length : Int))) then
      bif ((decide ((0 : Int) ≤ p205)) && (decide (p205 < (p206.length : Int)))) then
      (f_laws_markIntS ((p206.getD p205.toNat ([], 0, 0)).1) p203).bind fun y207 =>
      (some ((p206.set p205.toNat (y207.2, (p206.getD p205.toNat ([], 0, 0)).2.1, (p206.getD p205.toNat ([], 0, 0)).2.2)) : List (List Int × Int × Int))).bind fun z208 =>
      bif ((decide ((0 : Int) ≤ p205)) && (decide (p205 < (z208.length : Int)))) then
      (some ((z208.set p205.toNat ((z208.getD p205.toNat ([], 0, 0)).1, y207.1, (z208.getD p205.toNat ([], 0, 0)).2.2)) : List (List Int × Int × Int))).bind fun z209 =>
      bif ((decide ((0 : Int) ≤ p205)) && (decide (p205 < (z209.length : Int)))) then
      (some ((z209.set p205.toNat ((z209.getD p205.toNat ([], 0, 0)).1, (z209.getD p205.toNat ([], 0, 0)).2.1, (IntKind.wrap .i64 (y207.1 + (1 : Int))))) : List (List Int × Int × Int))).bind fun z210 =>
      f_laws_markHartS.l0 n (IntKind.wrap .i64 ((IntKind.wrap .i64 (y207.1 + (1 : Int))) + (1 : Int))) p204 (IntKind.wrap .i64 (p205 + (1 : Int))) z210
      else none
      else none
      else none
    else
      some (p203, p204, p206)
noncomputable def f_laws_markHartS (x0 : List (List Int × Int × Int)) (x1 : Int) : Option (Int × (List (List Int × Int × Int))) :=
  (f_laws_markHartS.l0 N x1 0 0 x0).bind fun r211 =>
  some (r211.1, r211.2.2)
noncomputable def C23 : Con := ⟨[(.I, false, [(.sl R1)]), (.B, false, [(.int .i64)])], [(false, [(.int .i64)])], [(.sl R1), (.int .i64)], [(.int .i64), (.sl R1)], fun (p : (List (List Int × Int × Int)) × Int) => f_laws_markHartS p.1 p.2⟩
noncomputable def f_laws_markHartS.l0.c : LoopCon := ⟨1000, 6, [0, 1, 4, 5], ⟨[(0, .ref 0 [] none), (1, .int .i64 0), (4, .int .i64 0), (5, .int .i64 0)], [(0, .row R1 [])], 1000⟩, [(.int .i64), (.int .i64), (.int .i64), (.sl R1)], [⟨.exit 0, [1, 4], ⟨[(1, .int .i64 0), (4, .int .i64 0)], [(0, .row R1 [])], 1000⟩, [(.int .i64), (.int .i64), (.sl R1)]⟩], fun (p : Int × Int × Int × (List (List Int × Int × Int))) => f_laws_markHartS.l0 N p.1 p.2.1 p.2.2.1 p.2.2.2⟩
noncomputable abbrev K23 : Cons := [(22, C22)]
noncomputable abbrev L23 : List (Nat × Loops) := [(23, [(2, f_laws_markHartS.l0.c)])]
abbrev Q23 : List (Nat × List (Int × Nat) × Nat) := []
noncomputable abbrev X23 : Nat → Ctx := ctxOf tb K23 L23 Q23
theorem f_laws_markHartS.l0.ok : ∀ n p, (fun (p : Int × Int × Int × (List (List Int × Int × Int))) => f_laws_markHartS.l0 n p.1 p.2.1 p.2.2.1 p.2.2.2) p = iterD (roundOf fs X23 6 23 2 false f_laws_markHartS.l0.c) n p :=
  iter_of (l := fun n => fun (p : Int × Int × Int × (List (List Int × Int × Int))) => f_laws_markHartS.l0 n p.1 p.2.1 p.2.2.1 p.2.2.2) (fun _ => rfl) (fun n p => by kernel_rfl)
theorem E23 : ∀ x, funG fs X23 6 23 C23 x = C23.fn x := fun x => by kernel_rfl
theorem B23 : ConG Try.prog 23 C23 := ConG.make FS MIX TY (cons := K23) (L := L23) (ptrs := Q23) ⟨S22, trivial⟩ trivial ⟨⟨⟨N, fun p => f_laws_markHartS.l0.ok N p⟩, trivial⟩, trivial⟩ rfl (by kernel_rfl) E23
theorem S23 : ConS Try.prog 23 C23 := B23.call (by kernel_rfl)
/-! laws.heldIntS: function 24 -/
noncomputable def f_laws_heldIntS.l0 : Nat → (List Int) → Int → Int → Int → Option ((Int) ⊕ (Int × Int))
  | 0, _, _, _, _ => none
  | n + 1, p212, p213, p214, p215 =>
    bif (decide (p215 < (p212.length : Int))) then
      bif ((decide ((0 : Int) ≤ p215)) && (decide (p215 < (p212.length : Int)))) then
      bif (!(decide ((p212.getD p215.toNat 0) = p213))) then
        some (.inl (-1))
      else
        f_laws_heldIntS.l0 n p212 (IntKind.wrap .i64 (p213 + (1 : Int))) p214 (IntKind.wrap .i64 (p215 + (1 : Int)))
      else none
    else
      some (.inr (p213, p214))
noncomputable def f_laws_heldIntS (x0 : List Int) (x1 : Int) : Option (Int) :=
  (f_laws_heldIntS.l0 N x0 x1 0 0).bind fun r216 =>
  cs r216 (fun a217 =>
    some a217) (fun b218 =>
    some b218.1)
noncomputable def C24 : Con := ⟨[(.B, false, [(.sl R0)]), (.B, false, [(.int .i64)])], [(false, [(.int .i64)])], [(.sl R0), (.int .i64)], [(.int .i64)], fun (p : List Int × Int) => f_laws_heldIntS p.1 p.2⟩
noncomputable def f_laws_heldIntS.l0.c : LoopCon := ⟨1000, 6, [0, 1, 4, 5], ⟨[(0, .bor none R0 []), (1, .int .i64 0), (4, .int .i64 0), (5, .int .i64 0)], [], 1000⟩, [(.sl R0), (.int .i64), (.int .i64), (.int .i64)], [⟨.ret, [4], ⟨[(4, .int .i64 0)], [], 1000⟩, [(.int .i64)]⟩, ⟨.exit 0, [1, 4], ⟨[(1, .int .i64 0), (4, .int .i64 0)], [], 1000⟩, [(.int .i64), (.int .i64)]⟩], fun (p : List Int × Int × Int × Int) => f_laws_heldIntS.l0 N p.1 p.2.1 p.2.2.1 p.2.2.2⟩
noncomputable abbrev K24 : Cons := []
noncomputable abbrev L24 : List (Nat × Loops) := [(24, [(2, f_laws_heldIntS.l0.c)])]
abbrev Q24 : List (Nat × List (Int × Nat) × Nat) := []
noncomputable abbrev X24 : Nat → Ctx := ctxOf tb K24 L24 Q24
theorem f_laws_heldIntS.l0.ok : ∀ n p, (fun (p : List Int × Int × Int × Int) => f_laws_heldIntS.l0 n p.1 p.2.1 p.2.2.1 p.2.2.2) p = iterD (roundOf fs X24 6 24 2 false f_laws_heldIntS.l0.c) n p :=
  iter_of (l := fun n => fun (p : List Int × Int × Int × Int) => f_laws_heldIntS.l0 n p.1 p.2.1 p.2.2.1 p.2.2.2) (fun _ => rfl) (fun n p => by kernel_rfl)
theorem E24 : ∀ x, funRun fs X24 6 24 C24 x = C24.fn x := fun x => by kernel_rfl
theorem B24 : ConB Try.prog 24 C24 := ConB.make FS MIX TY (cons := K24) (L := L24) (ptrs := Q24) trivial trivial ⟨⟨⟨N, fun p => f_laws_heldIntS.l0.ok N p⟩, trivial⟩, trivial⟩ rfl rfl E24
theorem S24 : ConS Try.prog 24 C24 := B24.call rfl
/-! laws.heldHartS: function 25 -/
noncomputable def f_laws_heldHartS.l0 : Nat → (List (List Int × Int × Int)) → Int → Int → Int → Option ((Int) ⊕ (Int × Int))
  | 0, _, _, _, _ => none
  | n + 1, p219, p220, p221, p222 =>
    bif (decide (p222 < (p219.length : Int))) then
      bif ((decide ((0 : Int) ≤ p222)) && (decide (p222 < (p219.length : Int)))) then
      (f_laws_heldIntS ((p219.getD p222.toNat ([], 0, 0)).1) p220).bind fun y223 =>
      bif (decide (y223 < (0 : Int))) then
        some (.inl (-1))
      else
        bif ((decide ((0 : Int) ≤ p222)) && (decide (p222 < (p219.length : Int)))) then
        bif (!(decide (((p219.getD p222.toNat ([], 0, 0)).2.1) = y223))) then
          some (.inl (-1))
        else
          bif ((decide ((0 : Int) ≤ p222)) && (decide (p222 < (p219.length : Int)))) then
          bif (!(decide (((p219.getD p222.toNat ([], 0, 0)).2.2) = (IntKind.wrap .i64 (y223 + (1 : Int)))))) then
            some (.inl (-1))
          else
            f_laws_heldHartS.l0 n p219 (IntKind.wrap .i64 ((IntKind.wrap .i64 (y223 + (1 : Int))) + (1 : Int))) p221 (IntKind.wrap .i64 (p222 + (1 : Int)))
          else none
        else none
      else none
    else
      some (.inr (p220, p221))
noncomputable def f_laws_heldHartS (x0 : List (List Int × Int × Int)) (x1 : Int) : Option (Int) :=
  (f_laws_heldHartS.l0 N x0 x1 0 0).bind fun r224 =>
  cs r224 (fun a225 =>
    some a225) (fun b226 =>
    some b226.1)
noncomputable def C25 : Con := ⟨[(.B, false, [(.sl R1)]), (.B, false, [(.int .i64)])], [(false, [(.int .i64)])], [(.sl R1), (.int .i64)], [(.int .i64)], fun (p : (List (List Int × Int × Int)) × Int) => f_laws_heldHartS p.1 p.2⟩
noncomputable def f_laws_heldHartS.l0.c : LoopCon := ⟨1000, 6, [0, 1, 4, 5], ⟨[(0, .bor none R1 []), (1, .int .i64 0), (4, .int .i64 0), (5, .int .i64 0)], [], 1000⟩, [(.sl R1), (.int .i64), (.int .i64), (.int .i64)], [⟨.ret, [4], ⟨[(4, .int .i64 0)], [], 1000⟩, [(.int .i64)]⟩, ⟨.exit 0, [1, 4], ⟨[(1, .int .i64 0), (4, .int .i64 0)], [], 1000⟩, [(.int .i64), (.int .i64)]⟩], fun (p : (List (List Int × Int × Int)) × Int × Int × Int) => f_laws_heldHartS.l0 N p.1 p.2.1 p.2.2.1 p.2.2.2⟩
noncomputable abbrev K25 : Cons := [(24, C24)]
noncomputable abbrev L25 : List (Nat × Loops) := [(25, [(2, f_laws_heldHartS.l0.c)])]
abbrev Q25 : List (Nat × List (Int × Nat) × Nat) := []
noncomputable abbrev X25 : Nat → Ctx := ctxOf tb K25 L25 Q25
theorem f_laws_heldHartS.l0.ok : ∀ n p, (fun (p : (List (List Int × Int × Int)) × Int × Int × Int) => f_laws_heldHartS.l0 n p.1 p.2.1 p.2.2.1 p.2.2.2) p = iterD (roundOf fs X25 6 25 2 false f_laws_heldHartS.l0.c) n p :=
  iter_of (l := fun n => fun (p : (List (List Int × Int × Int)) × Int × Int × Int) => f_laws_heldHartS.l0 n p.1 p.2.1 p.2.2.1 p.2.2.2) (fun _ => rfl) (fun n p => by kernel_rfl)
theorem E25 : ∀ x, funRun fs X25 6 25 C25 x = C25.fn x := fun x => by kernel_rfl
theorem B25 : ConB Try.prog 25 C25 := ConB.make FS MIX TY (cons := K25) (L := L25) (ptrs := Q25) ⟨S24, trivial⟩ trivial ⟨⟨⟨N, fun p => f_laws_heldHartS.l0.ok N p⟩, trivial⟩, trivial⟩ rfl rfl E25
theorem S25 : ConS Try.prog 25 C25 := B25.call rfl
/-! laws.FnExactFlatRun: function 3 -/
noncomputable def f_laws_FnExactFlatRun (x0 : List Int) (x1 : List (List Int × Int × Int)) (x2 : List Int) : Option (Bool) :=
  bif (decide ((1048576 : Int) < (x0.length : Int))) then
    some true
  else
    bif (decide ((1048576 : Int) < (x2.length : Int))) then
      some true
    else
      (f_laws_szHartS x1 1048576).bind fun y227 =>
      bif (decide (y227 < (0 : Int))) then
        some true
      else
        (f_laws_toIntS x0).bind fun y228 =>
        (f_laws_toHartS x1).bind fun y229 =>
        (f_laws_toIntS x2).bind fun y230 =>
        (f_spec_FlatRun y228 y229 y230).bind fun y231 =>
        (f_laws_toIntS x0).bind fun y232 =>
        (f_laws_toHartS x1).bind fun y233 =>
        (f_laws_toIntS x2).bind fun y234 =>
        (f_impl_FlatRun y232 y233 y234).bind fun y235 =>
        (f_laws_eqIntS y235.1 y231.1).bind fun y236 =>
        bif (!y236) then
          some false
        else
          (f_laws_eqHartS y235.2 y231.2).bind fun y237 =>
          bif (!y237) then
            some false
          else
            (f_laws_toIntS x0).bind fun y238 =>
            (f_laws_eqIntS y232 y238).bind fun y239 =>
            bif (!y239) then
              some false
            else
              (f_laws_toHartS x1).bind fun y240 =>
              (f_laws_eqHartS y233 y240).bind fun y241 =>
              bif (!y241) then
                some false
              else
                (f_laws_toIntS x2).bind fun y242 =>
                (f_laws_eqIntS y234 y242).bind fun y243 =>
                bif (!y243) then
                  some false
                else
                  (f_laws_markIntS y232 1).bind fun y244 =>
                  (some (y244.2 : List Int)).bind fun z245 =>
                  (f_laws_markHartS y233 y244.1).bind fun y246 =>
                  (some (y246.2 : List (List Int × Int × Int))).bind fun z247 =>
                  (f_laws_markIntS y234 y246.1).bind fun y248 =>
                  (some (y248.2 : List Int)).bind fun z249 =>
                  bif (decide (y248.1 < (0 : Int))) then
                    some false
                  else
                    (f_laws_eqIntS y235.1 y231.1).bind fun y250 =>
                    bif (!y250) then
                      some false
                    else
                      (f_laws_eqHartS y235.2 y231.2).bind fun y251 =>
                      bif (!y251) then
                        some false
                      else
                        (f_laws_markIntS y235.1 1).bind fun y252 =>
                        (some (y252.2 : List Int)).bind fun z253 =>
                        (f_laws_markHartS y235.2 y252.1).bind fun y254 =>
                        (some (y254.2 : List (List Int × Int × Int))).bind fun z255 =>
                        (f_laws_heldIntS z253 1).bind fun y256 =>
                        bif (decide (y256 < (0 : Int))) then
                          some false
                        else
                          (f_laws_heldHartS z255 y256).bind fun y257 =>
                          bif (decide (y257 < (0 : Int))) then
                            some false
                          else
                            bif (!(decide (y257 = y254.1))) then
                              some false
                            else
                              (f_laws_toIntS x0).bind fun y258 =>
                              (f_laws_toHartS x1).bind fun y259 =>
                              (f_laws_toIntS x2).bind fun y260 =>
                              (f_impl_FlatRun y258 y259 y260).bind fun y261 =>
                              (f_laws_eqIntS y261.1 y231.1).bind fun y262 =>
                              bif (!y262) then
                                some false
                              else
                                (f_laws_eqHartS y261.2 y231.2).bind fun y263 =>
                                bif (!y263) then
                                  some false
                                else
                                  (f_laws_heldIntS z253 1).bind fun y264 =>
                                  bif (decide (y264 < (0 : Int))) then
                                    some false
                                  else
                                    (f_laws_heldHartS z255 y264).bind fun y265 =>
                                    bif (decide (y265 < (0 : Int))) then
                                      some false
                                    else
                                      bif (!(decide (y265 = y254.1))) then
                                        some false
                                      else
                                        some true
noncomputable def C3 : Con := ⟨[(.B, false, [(.sl R0)]), (.B, false, [(.sl R1)]), (.B, false, [(.sl R0)])], [(false, [.bool])], [(.sl R0), (.sl R1), (.sl R0)], [.bool], fun (p : List Int × (List (List Int × Int × Int)) × List Int) => f_laws_FnExactFlatRun p.1 p.2.1 p.2.2⟩
noncomputable abbrev K3 : Cons := [(15, C15), (16, C16), (17, C17), (18, C18), (19, C19), (20, C20), (21, C21), (22, C22), (23, C23), (24, C24), (25, C25)]
noncomputable abbrev L3 : List (Nat × Loops) := []
abbrev Q3 : List (Nat × List (Int × Nat) × Nat) := []
noncomputable abbrev X3 : Nat → Ctx := ctxOf tb K3 L3 Q3
theorem E3 : ∀ x, funRun fs X3 6 3 C3 x = C3.fn x := fun x => by kernel_rfl
theorem B3 : ConB Try.prog 3 C3 := ConB.make FS MIX TY (cons := K3) (L := L3) (ptrs := Q3) ⟨S15, S16, S17, S18, S19, S20, S21, S22, S23, S24, S25, trivial⟩ trivial trivial rfl rfl E3
theorem S3 : ConS Try.prog 3 C3 := B3.call rfl
/-- What is left: the plain law. -/
def Pure : Prop := ∀ x : Tup [(.sl R0), (.sl R1), (.sl R0)], WfT [(.sl R0), (.sl R1), (.sl R0)] x → C3.fn x = some (true : Bool)
end
end Go.Abs
