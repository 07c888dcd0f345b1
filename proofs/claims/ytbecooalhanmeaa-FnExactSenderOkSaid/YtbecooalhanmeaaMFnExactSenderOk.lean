import Derived.Test.YtbecooalhanmeaaProg
import Derived.Test.YtbecooalhanmeaaAbsC
import Derived.KernelRfl
namespace Go.Abs
open Go.Proofs
set_option linter.unusedVariables false
set_option maxRecDepth 100000
noncomputable section
abbrev N : Nat := 1152921504606846976
abbrev R0 : RT := .one (.int .i64)
abbrev R1 : RT := .cons (.int .i64) (.cons (.int .i64) (.cons .bool (.one (.sl R0))))
noncomputable def tb : Tb := [(0, ⟨false, [], [], 0, 0⟩),
  (3, ⟨false, [(.int .i64)], [], 0, 8⟩),
  (4, ⟨false, [.bool], [], 0, 1⟩),
  (22, ⟨false, [(.sl R0)], [], 3, 24⟩),
  (24, ⟨true, [(.int .i64), (.int .i64), .bool, (.sl R0)], [(0, 3), (1, 3), (2, 4), (3, 22)], 0, 48⟩),
  (26, ⟨false, [], [], 0, 8⟩),
  (27, ⟨true, [(.int .i64), (.int .i64), .bool, (.sl R0)], [(0, 3), (1, 3), (2, 4), (3, 22)], 0, 48⟩),
  (70, ⟨false, [], [], 0, 8⟩),
  (82, ⟨false, [(.sl R1)], [], 24, 24⟩),
  (84, ⟨true, [(.int .i64), (.sl R1)], [(0, 3), (1, 82)], 0, 32⟩),
  (87, ⟨false, [(.sl R1)], [], 27, 24⟩),
  (89, ⟨true, [(.int .i64), (.sl R1)], [(0, 3), (1, 87)], 0, 32⟩)]
noncomputable def fsL : List (Nat × Func) := [(68, Try.f68), (15, Try.f15), (101, Try.f101), (49, Try.f49), (27, Try.f27), (17, Try.f17), (102, Try.f102), (51, Try.f51), (69, Try.f69), (70, Try.f70), (16, Try.f16), (50, Try.f50), (71, Try.f71), (87, Try.f87), (72, Try.f72), (83, Try.f83), (114, Try.f114), (122, Try.f122), (113, Try.f113), (73, Try.f73), (18, Try.f18), (104, Try.f104), (120, Try.f120), (103, Try.f103), (52, Try.f52), (29, Try.f29), (19, Try.f19), (105, Try.f105), (53, Try.f53), (10, Try.f10)]
noncomputable def fs : Nat → Option Func := getF fsL
theorem MIX : Try.prog.follows .mixedOrders = true := by kernel_rfl
theorem TY : tyCheck Try.prog tb = true := by kernel_rfl
theorem CAT : catCheck tb = true := by kernel_rfl
theorem FSP : FsP Try.prog fsL := ⟨Try.func68, Try.func15, Try.func101, Try.func49, Try.func27, Try.func17, Try.func102, Try.func51, Try.func69, Try.func70, Try.func16, Try.func50, Try.func71, Try.func87, Try.func72, Try.func83, Try.func114, Try.func122, Try.func113, Try.func73, Try.func18, Try.func104, Try.func120, Try.func103, Try.func52, Try.func29, Try.func19, Try.func105, Try.func53, Try.func10, trivial⟩
theorem FSC : (fsL.all fun p => fnChk p.2) = true := by kernel_rfl
theorem FS : FsS Try.prog fs := FsS.of FSP FSC
/-! laws.szIntS: function 68 -/
noncomputable def f_laws_szIntS (x0 : List Int) (x1 : Int) : Option (Int) :=
  bif (decide ((IntKind.wrap .i64 (x1 - (x0.length : Int))) < (0 : Int))) then
    some (-1)
  else
    some (IntKind.wrap .i64 (x1 - (x0.length : Int)))
noncomputable def C68 : Con := ⟨[(.B, false, [(.sl R0)]), (.B, false, [(.int .i64)])], [(false, [(.int .i64)])], [(.sl R0), (.int .i64)], [(.int .i64)], fun (p : List Int × Int) => f_laws_szIntS p.1 p.2⟩
noncomputable abbrev K68 : Cons := []
noncomputable abbrev L68 : List (Nat × Loops) := []
abbrev Q68 : List (Nat × List (Int × Nat) × Nat) := []
noncomputable abbrev X68 : Nat → Ctx := ctxOf tb K68 L68 Q68
theorem E68 : ∀ x, funRun fs X68 6 68 C68 x = C68.fn x := fun x => by kernel_rfl
theorem B68 : ConB Try.prog 68 C68 := ConB.make FS MIX TY (cons := K68) (L := L68) (ptrs := Q68) trivial trivial trivial rfl rfl E68
theorem S68 : ConS Try.prog 68 C68 := B68.call rfl
/-! laws.szMsg: function 15 -/
noncomputable def f_laws_szMsg (x0 : Int) (x1 : Int) (x2 : Bool) (x3 : List Int) (x4 : Int) : Option (Int) :=
  (f_laws_szIntS x3 x4).bind fun y1 =>
  bif (decide (y1 < (0 : Int))) then
    some (-1)
  else
    some y1
noncomputable def C15 : Con := ⟨[(.B, true, [(.int .i64), (.int .i64), .bool, (.sl R0)]), (.B, false, [(.int .i64)])], [(false, [(.int .i64)])], [(.int .i64), (.int .i64), .bool, (.sl R0), (.int .i64)], [(.int .i64)], fun (p : Int × Int × Bool × List Int × Int) => f_laws_szMsg p.1 p.2.1 p.2.2.1 p.2.2.2.1 p.2.2.2.2⟩
noncomputable abbrev K15 : Cons := [(68, C68)]
noncomputable abbrev L15 : List (Nat × Loops) := []
abbrev Q15 : List (Nat × List (Int × Nat) × Nat) := []
noncomputable abbrev X15 : Nat → Ctx := ctxOf tb K15 L15 Q15
theorem E15 : ∀ x, funRun fs X15 6 15 C15 x = C15.fn x := fun x => by kernel_rfl
theorem B15 : ConB Try.prog 15 C15 := ConB.make FS MIX TY (cons := K15) (L := L15) (ptrs := Q15) ⟨S68, trivial⟩ trivial trivial rfl rfl E15
theorem S15 : ConS Try.prog 15 C15 := B15.call rfl
/-! laws.szMsgS: function 101 -/
noncomputable def f_laws_szMsgS.l0 : Nat → (List (Int × Int × Bool × List Int)) → Int → Int → Int → Option ((Int) ⊕ (Int × Int))
  | 0, _, _, _, _ => none
  | n + 1, p2, p3, p4, p5 =>
    bif (decide (p5 < (p2.length : Int))) then
      bif ((decide ((0 : Int) ≤ p5)) && (decide (p5 < (p2.length : Int)))) then
      (f_laws_szMsg ((p2.getD p5.toNat (0, 0, false, [])).1) ((p2.getD p5.toNat (0, 0, false, [])).2.1) ((p2.getD p5.toNat (0, 0, false, [])).2.2.1) ((p2.getD p5.toNat (0, 0, false, [])).2.2.2) p3).bind fun y6 =>
      bif (decide (y6 < (0 : Int))) then
        some (.inl (-1))
      else
        f_laws_szMsgS.l0 n p2 y6 p4 (IntKind.wrap .i64 (p5 + (1 : Int)))
      else none
    else
      some (.inr (p3, p4))
noncomputable def f_laws_szMsgS (x0 : List (Int × Int × Bool × List Int)) (x1 : Int) : Option (Int) :=
  bif (decide ((IntKind.wrap .i64 (x1 - (x0.length : Int))) < (0 : Int))) then
    some (-1)
  else
    (f_laws_szMsgS.l0 N x0 (IntKind.wrap .i64 (x1 - (x0.length : Int))) 0 0).bind fun r7 =>
    cs r7 (fun a8 =>
      some a8) (fun b9 =>
      some b9.1)
noncomputable def C101 : Con := ⟨[(.B, false, [(.sl R1)]), (.B, false, [(.int .i64)])], [(false, [(.int .i64)])], [(.sl R1), (.int .i64)], [(.int .i64)], fun (p : (List (Int × Int × Bool × List Int)) × Int) => f_laws_szMsgS p.1 p.2⟩
noncomputable def f_laws_szMsgS.l0.c : LoopCon := ⟨1000, 6, [0, 1, 4, 5], ⟨[(0, .bor none R1 []), (1, .int .i64 0), (4, .int .i64 0), (5, .int .i64 0)], [], 1000⟩, [(.sl R1), (.int .i64), (.int .i64), (.int .i64)], [⟨.ret, [4], ⟨[(4, .int .i64 0)], [], 1000⟩, [(.int .i64)]⟩, ⟨.exit 0, [1, 4], ⟨[(1, .int .i64 0), (4, .int .i64 0)], [], 1000⟩, [(.int .i64), (.int .i64)]⟩], fun (p : (List (Int × Int × Bool × List Int)) × Int × Int × Int) => f_laws_szMsgS.l0 N p.1 p.2.1 p.2.2.1 p.2.2.2⟩
noncomputable abbrev K101 : Cons := [(15, C15)]
noncomputable abbrev L101 : List (Nat × Loops) := [(101, [(5, f_laws_szMsgS.l0.c)])]
abbrev Q101 : List (Nat × List (Int × Nat) × Nat) := []
noncomputable abbrev X101 : Nat → Ctx := ctxOf tb K101 L101 Q101
theorem f_laws_szMsgS.l0.ok : ∀ n p, (fun (p : (List (Int × Int × Bool × List Int)) × Int × Int × Int) => f_laws_szMsgS.l0 n p.1 p.2.1 p.2.2.1 p.2.2.2) p = iterD (roundOf fs X101 6 101 5 false f_laws_szMsgS.l0.c) n p :=
  iter_of (l := fun n => fun (p : (List (Int × Int × Bool × List Int)) × Int × Int × Int) => f_laws_szMsgS.l0 n p.1 p.2.1 p.2.2.1 p.2.2.2) (fun _ => rfl) (fun n p => by kernel_rfl)
theorem E101 : ∀ x, funRun fs X101 6 101 C101 x = C101.fn x := fun x => by kernel_rfl
theorem B101 : ConB Try.prog 101 C101 := ConB.make FS MIX TY (cons := K101) (L := L101) (ptrs := Q101) ⟨S15, trivial⟩ trivial ⟨⟨⟨N, fun p => f_laws_szMsgS.l0.ok N p⟩, trivial⟩, trivial⟩ rfl rfl E101
theorem S101 : ConS Try.prog 101 C101 := B101.call rfl
/-! laws.szSender: function 49 -/
noncomputable def f_laws_szSender (x0 : Int) (x1 : List (Int × Int × Bool × List Int)) (x2 : Int) : Option (Int) :=
  (f_laws_szMsgS x1 x2).bind fun y10 =>
  bif (decide (y10 < (0 : Int))) then
    some (-1)
  else
    some y10
noncomputable def C49 : Con := ⟨[(.B, true, [(.int .i64), (.sl R1)]), (.B, false, [(.int .i64)])], [(false, [(.int .i64)])], [(.int .i64), (.sl R1), (.int .i64)], [(.int .i64)], fun (p : Int × (List (Int × Int × Bool × List Int)) × Int) => f_laws_szSender p.1 p.2.1 p.2.2⟩
noncomputable abbrev K49 : Cons := [(101, C101)]
noncomputable abbrev L49 : List (Nat × Loops) := []
abbrev Q49 : List (Nat × List (Int × Nat) × Nat) := []
noncomputable abbrev X49 : Nat → Ctx := ctxOf tb K49 L49 Q49
theorem E49 : ∀ x, funRun fs X49 6 49 C49 x = C49.fn x := fun x => by kernel_rfl
theorem B49 : ConB Try.prog 49 C49 := ConB.make FS MIX TY (cons := K49) (L := L49) (ptrs := Q49) ⟨S101, trivial⟩ trivial trivial rfl rfl E49
theorem S49 : ConS Try.prog 49 C49 := B49.call rfl
/-! laws.toIntS: function 27 -/
noncomputable def f_laws_toIntS.l0 : Nat → (List Int) → Int → (List Int) → Option (List Int)
  | 0, _, _, _ => none
  | n + 1, p11, p12, p13 =>
    bif (decide (p12 < (p11.length : Int))) then
      bif ((decide ((0 : Int) ≤ p12)) && (decide (p12 < (p11.length : Int)))) then
      bif ((decide ((0 : Int) ≤ p12)) && (decide (p12 < (p13.length : Int)))) then
      (some ((p13.set p12.toNat (p11.getD p12.toNat 0)) : List Int)).bind fun z14 =>
      f_laws_toIntS.l0 n p11 (IntKind.wrap .i64 (p12 + (1 : Int))) z14
      else none
      else none
    else
      some p13
noncomputable def f_laws_toIntS (x0 : List Int) : Option (List Int) :=
  bif (decide ((0 : Int) ≤ (x0.length : Int)) && Nat.ble (x0.length : Int).toNat 17592186044416) then
  (f_laws_toIntS.l0 N x0 0 (List.replicate (x0.length : Int).toNat 0)).bind fun r15 =>
  some r15
  else none
noncomputable def C27 : Con := ⟨[(.B, false, [(.sl R0)])], [(false, [(.sl R0)])], [(.sl R0)], [(.sl R0)], fun (p : List Int) => f_laws_toIntS p⟩
noncomputable def f_laws_toIntS.l0.c : LoopCon := ⟨1000, 6, [0, 2, 3, 4], ⟨[(0, .bor none R0 []), (2, .nil (some R0)), (3, .ref 1000 [] none), (4, .int .i64 0)], [(1000, .row R0 [])], 1001⟩, [(.sl R0), (.int .i64), (.sl R0)], [⟨.exit 0, [2, 3], ⟨[(2, .nil (some R0)), (3, .ref 1000 [] none)], [(1000, .row R0 [])], 1001⟩, [(.sl R0)]⟩], fun (p : List Int × Int × List Int) => f_laws_toIntS.l0 N p.1 p.2.1 p.2.2⟩
noncomputable abbrev K27 : Cons := []
noncomputable abbrev L27 : List (Nat × Loops) := [(27, [(3, f_laws_toIntS.l0.c)])]
abbrev Q27 : List (Nat × List (Int × Nat) × Nat) := []
noncomputable abbrev X27 : Nat → Ctx := ctxOf tb K27 L27 Q27
theorem f_laws_toIntS.l0.ok : ∀ n p, (fun (p : List Int × Int × List Int) => f_laws_toIntS.l0 n p.1 p.2.1 p.2.2) p = iterD (roundOf fs X27 6 27 3 false f_laws_toIntS.l0.c) n p :=
  iter_of (l := fun n => fun (p : List Int × Int × List Int) => f_laws_toIntS.l0 n p.1 p.2.1 p.2.2) (fun _ => rfl) (fun n p => by kernel_rfl)
theorem E27 : ∀ x, funRun fs X27 6 27 C27 x = C27.fn x := fun x => by kernel_rfl
theorem B27 : ConB Try.prog 27 C27 := ConB.make FS MIX TY (cons := K27) (L := L27) (ptrs := Q27) trivial trivial ⟨⟨⟨N, fun p => f_laws_toIntS.l0.ok N p⟩, trivial⟩, trivial⟩ rfl rfl E27
theorem S27 : ConS Try.prog 27 C27 := B27.call rfl
/-! laws.toMsg: function 17 -/
noncomputable def f_laws_toMsg (x0 : Int) (x1 : Int) (x2 : Bool) (x3 : List Int) : Option (Int × Int × Bool × List Int) :=
  (f_laws_toIntS x3).bind fun y16 =>
  some (x0, x1, x2, y16)
noncomputable def C17 : Con := ⟨[(.B, true, [(.int .i64), (.int .i64), .bool, (.sl R0)])], [(true, [(.int .i64), (.int .i64), .bool, (.sl R0)])], [(.int .i64), (.int .i64), .bool, (.sl R0)], [(.int .i64), (.int .i64), .bool, (.sl R0)], fun (p : Int × Int × Bool × List Int) => f_laws_toMsg p.1 p.2.1 p.2.2.1 p.2.2.2⟩
noncomputable abbrev K17 : Cons := [(27, C27)]
noncomputable abbrev L17 : List (Nat × Loops) := []
abbrev Q17 : List (Nat × List (Int × Nat) × Nat) := []
noncomputable abbrev X17 : Nat → Ctx := ctxOf tb K17 L17 Q17
theorem E17 : ∀ x, funRun fs X17 6 17 C17 x = C17.fn x := fun x => by kernel_rfl
theorem B17 : ConB Try.prog 17 C17 := ConB.make FS MIX TY (cons := K17) (L := L17) (ptrs := Q17) ⟨S27, trivial⟩ trivial trivial rfl rfl E17
theorem S17 : ConS Try.prog 17 C17 := B17.call rfl
/-! laws.toMsgS: function 102 -/
noncomputable def f_laws_toMsgS.l0 : Nat → (List (Int × Int × Bool × List Int)) → Int → (List (Int × Int × Bool × List Int)) → Option ((List (Int × Int × Bool × List Int)))
  | 0, _, _, _ => none
  | n + 1, p17, p18, p19 =>
    bif (decide (p18 < (p17.length : Int))) then
      bif ((decide ((0 : Int) ≤ p18)) && (decide (p18 < (p17.length : Int)))) then
      (f_laws_toMsg ((p17.getD p18.toNat (0, 0, false, [])).1) ((p17.getD p18.toNat (0, 0, false, [])).2.1) ((p17.getD p18.toNat (0, 0, false, [])).2.2.1) ((p17.getD p18.toNat (0, 0, false, [])).2.2.2)).bind fun y20 =>
      bif ((decide ((0 : Int) ≤ p18)) && (decide (p18 < (p19.length : Int)))) then
      (some ((p19.set p18.toNat (y20.1, y20.2.1, y20.2.2.1, y20.2.2.2)) : List (Int × Int × Bool × List Int))).bind fun z21 =>
      f_laws_toMsgS.l0 n p17 (IntKind.wrap .i64 (p18 + (1 : Int))) z21
      else none
      else none
    else
      some p19
noncomputable def f_laws_toMsgS (x0 : List (Int × Int × Bool × List Int)) : Option ((List (Int × Int × Bool × List Int))) :=
  bif (decide ((0 : Int) ≤ (x0.length : Int)) && Nat.ble (x0.length : Int).toNat 2932031007402) then
  (f_laws_toMsgS.l0 N x0 0 (List.replicate (x0.length : Int).toNat (0, 0, false, []))).bind fun r22 =>
  some r22
  else none
noncomputable def C102 : Con := ⟨[(.B, false, [(.sl R1)])], [(false, [(.sl R1)])], [(.sl R1)], [(.sl R1)], fun (p : (List (Int × Int × Bool × List Int))) => f_laws_toMsgS p⟩
noncomputable def f_laws_toMsgS.l0.c : LoopCon := ⟨1000, 6, [0, 2, 3, 4], ⟨[(0, .bor none R1 []), (2, .nil (some R1)), (3, .ref 1000 [] none), (4, .int .i64 0)], [(1000, .row R1 [])], 1001⟩, [(.sl R1), (.int .i64), (.sl R1)], [⟨.exit 0, [2, 3], ⟨[(2, .nil (some R1)), (3, .ref 1000 [] none)], [(1000, .row R1 [])], 1001⟩, [(.sl R1)]⟩], fun (p : (List (Int × Int × Bool × List Int)) × Int × (List (Int × Int × Bool × List Int))) => f_laws_toMsgS.l0 N p.1 p.2.1 p.2.2⟩
noncomputable abbrev K102 : Cons := [(17, C17)]
noncomputable abbrev L102 : List (Nat × Loops) := [(102, [(3, f_laws_toMsgS.l0.c)])]
abbrev Q102 : List (Nat × List (Int × Nat) × Nat) := []
noncomputable abbrev X102 : Nat → Ctx := ctxOf tb K102 L102 Q102
theorem f_laws_toMsgS.l0.ok : ∀ n p, (fun (p : (List (Int × Int × Bool × List Int)) × Int × (List (Int × Int × Bool × List Int))) => f_laws_toMsgS.l0 n p.1 p.2.1 p.2.2) p = iterD (roundOf fs X102 6 102 3 false f_laws_toMsgS.l0.c) n p :=
  iter_of (l := fun n => fun (p : (List (Int × Int × Bool × List Int)) × Int × (List (Int × Int × Bool × List Int))) => f_laws_toMsgS.l0 n p.1 p.2.1 p.2.2) (fun _ => rfl) (fun n p => by kernel_rfl)
theorem E102 : ∀ x, funRun fs X102 6 102 C102 x = C102.fn x := fun x => by kernel_rfl
theorem B102 : ConB Try.prog 102 C102 := ConB.make FS MIX TY (cons := K102) (L := L102) (ptrs := Q102) ⟨S17, trivial⟩ trivial ⟨⟨⟨N, fun p => f_laws_toMsgS.l0.ok N p⟩, trivial⟩, trivial⟩ rfl rfl E102
theorem S102 : ConS Try.prog 102 C102 := B102.call rfl
/-! laws.toSender: function 51 -/
noncomputable def f_laws_toSender (x0 : Int) (x1 : List (Int × Int × Bool × List Int)) : Option (Int × (List (Int × Int × Bool × List Int))) :=
  (f_laws_toMsgS x1).bind fun y23 =>
  some (x0, y23)
noncomputable def C51 : Con := ⟨[(.B, true, [(.int .i64), (.sl R1)])], [(true, [(.int .i64), (.sl R1)])], [(.int .i64), (.sl R1)], [(.int .i64), (.sl R1)], fun (p : Int × (List (Int × Int × Bool × List Int))) => f_laws_toSender p.1 p.2⟩
noncomputable abbrev K51 : Cons := [(102, C102)]
noncomputable abbrev L51 : List (Nat × Loops) := []
abbrev Q51 : List (Nat × List (Int × Nat) × Nat) := []
noncomputable abbrev X51 : Nat → Ctx := ctxOf tb K51 L51 Q51
theorem E51 : ∀ x, funRun fs X51 6 51 C51 x = C51.fn x := fun x => by kernel_rfl
theorem B51 : ConB Try.prog 51 C51 := ConB.make FS MIX TY (cons := K51) (L := L51) (ptrs := Q51) ⟨S102, trivial⟩ trivial trivial rfl rfl E51
theorem S51 : ConS Try.prog 51 C51 := B51.call rfl
/-! spec.l1In: function 69 -/
noncomputable def f_spec_l1In (x0 : Int) (x1 : Int) (x2 : Int) : Option (Bool) :=
  bif (decide (x1 ≤ x0)) then
    some (decide (x0 ≤ x2))
  else
    some false
noncomputable def C69 : Con := ⟨[(.B, false, [(.int .i64)]), (.B, false, [(.int .i64)]), (.B, false, [(.int .i64)])], [(false, [.bool])], [(.int .i64), (.int .i64), (.int .i64)], [.bool], fun (p : Int × Int × Int) => f_spec_l1In p.1 p.2.1 p.2.2⟩
noncomputable abbrev K69 : Cons := []
noncomputable abbrev L69 : List (Nat × Loops) := []
abbrev Q69 : List (Nat × List (Int × Nat) × Nat) := []
noncomputable abbrev X69 : Nat → Ctx := ctxOf tb K69 L69 Q69
theorem E69 : ∀ x, funRun fs X69 6 69 C69 x = C69.fn x := fun x => by kernel_rfl
theorem B69 : ConB Try.prog 69 C69 := ConB.make FS MIX TY (cons := K69) (L := L69) (ptrs := Q69) trivial trivial trivial rfl rfl E69
theorem S69 : ConS Try.prog 69 C69 := B69.call rfl
/-! spec.l1Words: function 70 -/
noncomputable def f_spec_l1Words.l0 : Nat → (List Int) → Int → Bool → Int → Option ((Bool) ⊕ (List Int × Int × Bool))
  | 0, _, _, _, _ => none
  | n + 1, p24, p25, p26, p27 =>
    bif (decide (p27 < (p24.length : Int))) then
      bif ((decide ((0 : Int) ≤ p27)) && (decide (p27 < (p24.length : Int)))) then
      (f_spec_l1In (p24.getD p27.toNat 0) 0 65535).bind fun y28 =>
      bif (!y28) then
        some (.inl false)
      else
        f_spec_l1Words.l0 n p24 p25 p26 (IntKind.wrap .i64 (p27 + (1 : Int)))
      else none
    else
      some (.inr (p24, p25, p26))
noncomputable def f_spec_l1Words (x0 : List Int) (x1 : Int) : Option (Bool) :=
  (f_spec_l1Words.l0 N x0 x1 false 0).bind fun r29 =>
  cs r29 (fun a30 =>
    some a30) (fun b31 =>
    some (decide ((b31.1.length : Int) = b31.2.1)))
noncomputable def C70 : Con := ⟨[(.B, false, [(.sl R0)]), (.B, false, [(.int .i64)])], [(false, [.bool])], [(.sl R0), (.int .i64)], [.bool], fun (p : List Int × Int) => f_spec_l1Words p.1 p.2⟩
noncomputable def f_spec_l1Words.l0.c : LoopCon := ⟨1000, 6, [0, 1, 4, 5], ⟨[(0, .bor none R0 []), (1, .int .i64 0), (4, .bool false), (5, .int .i64 0)], [], 1000⟩, [(.sl R0), (.int .i64), .bool, (.int .i64)], [⟨.ret, [4], ⟨[(4, .bool false)], [], 1000⟩, [.bool]⟩, ⟨.exit 0, [0, 1, 4], ⟨[(0, .bor none R0 []), (1, .int .i64 0), (4, .bool false)], [], 1000⟩, [(.sl R0), (.int .i64), .bool]⟩], fun (p : List Int × Int × Bool × Int) => f_spec_l1Words.l0 N p.1 p.2.1 p.2.2.1 p.2.2.2⟩
noncomputable abbrev K70 : Cons := [(69, C69)]
noncomputable abbrev L70 : List (Nat × Loops) := [(70, [(2, f_spec_l1Words.l0.c)])]
abbrev Q70 : List (Nat × List (Int × Nat) × Nat) := []
noncomputable abbrev X70 : Nat → Ctx := ctxOf tb K70 L70 Q70
theorem f_spec_l1Words.l0.ok : ∀ n p, (fun (p : List Int × Int × Bool × Int) => f_spec_l1Words.l0 n p.1 p.2.1 p.2.2.1 p.2.2.2) p = iterD (roundOf fs X70 6 70 2 false f_spec_l1Words.l0.c) n p :=
  iter_of (l := fun n => fun (p : List Int × Int × Bool × Int) => f_spec_l1Words.l0 n p.1 p.2.1 p.2.2.1 p.2.2.2) (fun _ => rfl) (fun n p => by kernel_rfl)
theorem E70 : ∀ x, funRun fs X70 6 70 C70 x = C70.fn x := fun x => by kernel_rfl
theorem B70 : ConB Try.prog 70 C70 := ConB.make FS MIX TY (cons := K70) (L := L70) (ptrs := Q70) ⟨S69, trivial⟩ trivial ⟨⟨⟨N, fun p => f_spec_l1Words.l0.ok N p⟩, trivial⟩, trivial⟩ rfl rfl E70
theorem S70 : ConS Try.prog 70 C70 := B70.call rfl
/-! spec.MsgOk: function 16 -/
noncomputable def f_spec_MsgOk (x0 : Int) (x1 : Int) (x2 : Bool) (x3 : List Int) : Option (Bool) :=
  bif (decide (x0 = (3 : Int))) then
    bif (decide (x0 = (3 : Int))) then
      (f_spec_l1In x0 1 7).bind fun y32 =>
      bif y32 then
        (f_spec_l1In x1 0 5).bind fun y33 =>
        bif y33 then
          (f_spec_l1Words x3 4).bind fun y34 =>
          some y34
        else
          some false
      else
        some false
    else
      (f_spec_l1In x0 1 7).bind fun y35 =>
      bif y35 then
        (f_spec_l1In x1 0 5).bind fun y36 =>
        bif y36 then
          bif (decide (x0 = (6 : Int))) then
            (f_spec_l1Words x3 4).bind fun y37 =>
            some y37
          else
            bif (!x2) then
              (f_spec_l1Words x3 4).bind fun y38 =>
              some y38
            else
              some false
        else
          some false
      else
        some false
  else
    bif (decide (x0 = (7 : Int))) then
      bif (decide (x0 = (3 : Int))) then
        (f_spec_l1In x0 1 7).bind fun y39 =>
        bif y39 then
          (f_spec_l1In x1 0 5).bind fun y40 =>
          bif y40 then
            (f_spec_l1Words x3 4).bind fun y41 =>
            some y41
          else
            some false
        else
          some false
      else
        (f_spec_l1In x0 1 7).bind fun y42 =>
        bif y42 then
          (f_spec_l1In x1 0 5).bind fun y43 =>
          bif y43 then
            bif (decide (x0 = (6 : Int))) then
              (f_spec_l1Words x3 4).bind fun y44 =>
              some y44
            else
              bif (!x2) then
                (f_spec_l1Words x3 4).bind fun y45 =>
                some y45
              else
                some false
          else
            some false
        else
          some false
    else
      bif (decide (x0 = (3 : Int))) then
        (f_spec_l1In x0 1 7).bind fun y46 =>
        bif y46 then
          (f_spec_l1In x1 0 5).bind fun y47 =>
          bif y47 then
            (f_spec_l1Words x3 0).bind fun y48 =>
            some y48
          else
            some false
        else
          some false
      else
        (f_spec_l1In x0 1 7).bind fun y49 =>
        bif y49 then
          (f_spec_l1In x1 0 5).bind fun y50 =>
          bif y50 then
            bif (decide (x0 = (6 : Int))) then
              (f_spec_l1Words x3 0).bind fun y51 =>
              some y51
            else
              bif (!x2) then
                (f_spec_l1Words x3 0).bind fun y52 =>
                some y52
              else
                some false
          else
            some false
        else
          some false
noncomputable def C16 : Con := ⟨[(.B, true, [(.int .i64), (.int .i64), .bool, (.sl R0)])], [(false, [.bool])], [(.int .i64), (.int .i64), .bool, (.sl R0)], [.bool], fun (p : Int × Int × Bool × List Int) => f_spec_MsgOk p.1 p.2.1 p.2.2.1 p.2.2.2⟩
noncomputable abbrev K16 : Cons := [(69, C69), (70, C70)]
noncomputable abbrev L16 : List (Nat × Loops) := []
abbrev Q16 : List (Nat × List (Int × Nat) × Nat) := []
noncomputable abbrev X16 : Nat → Ctx := ctxOf tb K16 L16 Q16
theorem E16 : ∀ x, funRun fs X16 6 16 C16 x = C16.fn x := fun x => by kernel_rfl
theorem B16 : ConB Try.prog 16 C16 := ConB.make FS MIX TY (cons := K16) (L := L16) (ptrs := Q16) ⟨S69, S70, trivial⟩ trivial trivial rfl rfl E16
theorem S16 : ConS Try.prog 16 C16 := B16.call rfl
/-! spec.SenderOk: function 50 -/
noncomputable def f_spec_SenderOk.l0 : Nat → Bool → Int → Int → (List (Int × Int × Bool × List Int)) → Option ((Bool) ⊕ (Bool × Int × (List (Int × Int × Bool × List Int))))
  | 0, _, _, _, _ => none
  | n + 1, p53, p54, p55, p56 =>
    bif (decide (p54 < (p56.length : Int))) then
      bif ((decide ((0 : Int) ≤ p54)) && (decide (p54 < (p56.length : Int)))) then
      (f_spec_MsgOk ((p56.getD p54.toNat (0, 0, false, [])).1) ((p56.getD p54.toNat (0, 0, false, [])).2.1) ((p56.getD p54.toNat (0, 0, false, [])).2.2.1) ((p56.getD p54.toNat (0, 0, false, [])).2.2.2)).bind fun y57 =>
      bif (!y57) then
        some (.inl false)
      else
        f_spec_SenderOk.l0 n p53 (IntKind.wrap .i64 (p54 + (1 : Int))) p55 p56
      else none
    else
      some (.inr (p53, p55, p56))
noncomputable def f_spec_SenderOk (x0 : Int) (x1 : List (Int × Int × Bool × List Int)) : Option (Bool) :=
  (f_spec_SenderOk.l0 N false 0 x0 x1).bind fun r58 =>
  cs r58 (fun a59 =>
    some a59) (fun b60 =>
    (f_spec_l1In b60.2.1 0 100000).bind fun y61 =>
    bif y61 then
      bif (decide ((b60.2.2.length : Int) ≤ (30 : Int))) then
        some (decide ((IntKind.wrap .i64 (b60.2.1 + (b60.2.2.length : Int))) ≤ (100000 : Int)))
      else
        some false
    else
      some false)
noncomputable def C50 : Con := ⟨[(.B, true, [(.int .i64), (.sl R1)])], [(false, [.bool])], [(.int .i64), (.sl R1)], [.bool], fun (p : Int × (List (Int × Int × Bool × List Int))) => f_spec_SenderOk p.1 p.2⟩
noncomputable def f_spec_SenderOk.l0.c : LoopCon := ⟨1000, 6, [1, 2, 3], ⟨[(1, .ptr 1000 0), (2, .bool false), (3, .int .i64 0)], [(1000, .box [.int .i64 0, .bor none R1 []])], 1001⟩, [.bool, (.int .i64), (.int .i64), (.sl R1)], [⟨.ret, [2], ⟨[(2, .bool false)], [], 1000⟩, [.bool]⟩, ⟨.exit 0, [1, 2], ⟨[(1, .ptr 1000 0), (2, .bool false)], [(1000, .box [.int .i64 0, .bor none R1 []])], 1001⟩, [.bool, (.int .i64), (.sl R1)]⟩], fun (p : Bool × Int × Int × (List (Int × Int × Bool × List Int))) => f_spec_SenderOk.l0 N p.1 p.2.1 p.2.2.1 p.2.2.2⟩
noncomputable abbrev K50 : Cons := [(16, C16), (69, C69)]
noncomputable abbrev L50 : List (Nat × Loops) := [(50, [(2, f_spec_SenderOk.l0.c)])]
abbrev Q50 : List (Nat × List (Int × Nat) × Nat) := []
noncomputable abbrev X50 : Nat → Ctx := ctxOf tb K50 L50 Q50
theorem f_spec_SenderOk.l0.ok : ∀ n p, (fun (p : Bool × Int × Int × (List (Int × Int × Bool × List Int))) => f_spec_SenderOk.l0 n p.1 p.2.1 p.2.2.1 p.2.2.2) p = iterD (roundOf fs X50 6 50 2 false f_spec_SenderOk.l0.c) n p :=
  iter_of (l := fun n => fun (p : Bool × Int × Int × (List (Int × Int × Bool × List Int))) => f_spec_SenderOk.l0 n p.1 p.2.1 p.2.2.1 p.2.2.2) (fun _ => rfl) (fun n p => by kernel_rfl)
theorem E50 : ∀ x, funRun fs X50 6 50 C50 x = C50.fn x := fun x => by kernel_rfl
theorem B50 : ConB Try.prog 50 C50 := ConB.make FS MIX TY (cons := K50) (L := L50) (ptrs := Q50) ⟨S16, S69, trivial⟩ trivial ⟨⟨⟨N, fun p => f_spec_SenderOk.l0.ok N p⟩, trivial⟩, trivial⟩ rfl rfl E50
theorem S50 : ConS Try.prog 50 C50 := B50.call rfl
/-! impl.from: function 71 -/
noncomputable def f_impl_from (x0 : Int) (x1 : Int) (x2 : Int) : Option (Bool) :=
  bif (decide (x1 ≤ x0)) then
    some (decide (x0 ≤ x2))
  else
    some false
noncomputable def C71 : Con := ⟨[(.B, false, [(.int .i64)]), (.B, false, [(.int .i64)]), (.B, false, [(.int .i64)])], [(false, [.bool])], [(.int .i64), (.int .i64), (.int .i64)], [.bool], fun (p : Int × Int × Int) => f_impl_from p.1 p.2.1 p.2.2⟩
noncomputable abbrev K71 : Cons := []
noncomputable abbrev L71 : List (Nat × Loops) := []
abbrev Q71 : List (Nat × List (Int × Nat) × Nat) := []
noncomputable abbrev X71 : Nat → Ctx := ctxOf tb K71 L71 Q71
theorem E71 : ∀ x, funRun fs X71 6 71 C71 x = C71.fn x := fun x => by kernel_rfl
theorem B71 : ConB Try.prog 71 C71 := ConB.make FS MIX TY (cons := K71) (L := L71) (ptrs := Q71) trivial trivial trivial rfl rfl E71
theorem S71 : ConS Try.prog 71 C71 := B71.call rfl
/-! impl.isSeq: function 87 -/
noncomputable def f_impl_isSeq (x0 : Int) : Option (Bool) :=
  (f_impl_from x0 0 100000).bind fun y62 =>
  some y62
noncomputable def C87 : Con := ⟨[(.B, false, [(.int .i64)])], [(false, [.bool])], [(.int .i64)], [.bool], fun (p : Int) => f_impl_isSeq p⟩
noncomputable abbrev K87 : Cons := [(71, C71)]
noncomputable abbrev L87 : List (Nat × Loops) := []
abbrev Q87 : List (Nat × List (Int × Nat) × Nat) := []
noncomputable abbrev X87 : Nat → Ctx := ctxOf tb K87 L87 Q87
theorem E87 : ∀ x, funRun fs X87 6 87 C87 x = C87.fn x := fun x => by kernel_rfl
theorem B87 : ConB Try.prog 87 C87 := ConB.make FS MIX TY (cons := K87) (L := L87) (ptrs := Q87) ⟨S71, trivial⟩ trivial trivial rfl rfl E87
theorem S87 : ConS Try.prog 87 C87 := B87.call rfl
/-! impl.isPage: function 72 -/
noncomputable def f_impl_isPage (x0 : Int) : Option (Bool) :=
  (f_impl_from x0 0 5).bind fun y63 =>
  some y63
noncomputable def C72 : Con := ⟨[(.B, false, [(.int .i64)])], [(false, [.bool])], [(.int .i64)], [.bool], fun (p : Int) => f_impl_isPage p⟩
noncomputable abbrev K72 : Cons := [(71, C71)]
noncomputable abbrev L72 : List (Nat × Loops) := []
abbrev Q72 : List (Nat × List (Int × Nat) × Nat) := []
noncomputable abbrev X72 : Nat → Ctx := ctxOf tb K72 L72 Q72
theorem E72 : ∀ x, funRun fs X72 6 72 C72 x = C72.fn x := fun x => by kernel_rfl
theorem B72 : ConB Try.prog 72 C72 := ConB.make FS MIX TY (cons := K72) (L := L72) (ptrs := Q72) ⟨S71, trivial⟩ trivial trivial rfl rfl E72
theorem S72 : ConS Try.prog 72 C72 := B72.call rfl
/-! impl.isWord: function 83 -/
noncomputable def f_impl_isWord (x0 : Int) : Option (Bool) :=
  (f_impl_from x0 0 65535).bind fun y64 =>
  some y64
noncomputable def C83 : Con := ⟨[(.B, false, [(.int .i64)])], [(false, [.bool])], [(.int .i64)], [.bool], fun (p : Int) => f_impl_isWord p⟩
noncomputable abbrev K83 : Cons := [(71, C71)]
noncomputable abbrev L83 : List (Nat × Loops) := []
abbrev Q83 : List (Nat × List (Int × Nat) × Nat) := []
noncomputable abbrev X83 : Nat → Ctx := ctxOf tb K83 L83 Q83
theorem E83 : ∀ x, funRun fs X83 6 83 C83 x = C83.fn x := fun x => by kernel_rfl
theorem B83 : ConB Try.prog 83 C83 := ConB.make FS MIX TY (cons := K83) (L := L83) (ptrs := Q83) ⟨S71, trivial⟩ trivial trivial rfl rfl E83
theorem S83 : ConS Try.prog 83 C83 := B83.call rfl
/-! impl.wordsOk$1: function 114 -/
noncomputable def f_impl_wordsOk_1 (x0 : Int) : Option (Bool) :=
  (f_impl_isWord x0).bind fun y65 =>
  some (!y65)
noncomputable def C114 : Con := ⟨[(.B, false, [(.int .i64)])], [(false, [.bool])], [(.int .i64)], [.bool], fun (p : Int) => f_impl_wordsOk_1 p⟩
noncomputable abbrev K114 : Cons := [(83, C83)]
noncomputable abbrev L114 : List (Nat × Loops) := []
abbrev Q114 : List (Nat × List (Int × Nat) × Nat) := []
noncomputable abbrev X114 : Nat → Ctx := ctxOf tb K114 L114 Q114
theorem E114 : ∀ x, funRun fs X114 6 114 C114 x = C114.fn x := fun x => by kernel_rfl
theorem B114 : ConB Try.prog 114 C114 := ConB.make FS MIX TY (cons := K114) (L := L114) (ptrs := Q114) ⟨S83, trivial⟩ trivial trivial rfl rfl E114
theorem S114 : ConS Try.prog 114 C114 := B114.call rfl
/-! impl.wordsOk: function 73 -/
noncomputable def f_impl_wordsOk.l0 : Nat → (List Int) → Int → Int → Int → Option ((Int) ⊕ (Int))
  | 0, _, _, _, _ => none
  | n + 1, p66, p67, p68, p69 =>
    bif (decide (p69 < p68)) then
      bif ((decide ((0 : Int) ≤ p69)) && (decide (p69 < (p66.length : Int)))) then
      (f_impl_wordsOk_1 (p66.getD p69.toNat 0)).bind fun y70 =>
      bif y70 then
        some (.inl p69)
      else
        f_impl_wordsOk.l0 n p66 p67 p68 (IntKind.wrap .i64 (p69 + (1 : Int)))
      else none
    else
      some (.inr p67)
noncomputable def f_impl_wordsOk (x0 : List Int) (x1 : Int) : Option (Bool) :=
  bif (decide ((x0.length : Int) = x1)) then
    (f_impl_wordsOk.l0 N x0 0 (x0.length : Int) 0).bind fun r71 =>
    cs r71 (fun a72 =>
      some (!(decide ((0 : Int) ≤ a72)))) (fun b73 =>
      some true)
  else
    some false
noncomputable def C73 : Con := ⟨[(.B, false, [(.sl R0)]), (.B, false, [(.int .i64)])], [(false, [.bool])], [(.sl R0), (.int .i64)], [.bool], fun (p : List Int × Int) => f_impl_wordsOk p.1 p.2⟩
noncomputable def f_impl_wordsOk.l0.c : LoopCon := ⟨1274, 4, [0, 1, 4, 7, 8], ⟨[(0, .bor none R0 []), (1, .func 114 []), (4, .int .i64 0), (7, .int .i64 0), (8, .int .i64 0)], [], 1274⟩, [(.sl R0), (.int .i64), (.int .i64), (.int .i64)], [⟨.ret, [4], ⟨[(4, .int .i64 0)], [], 1274⟩, [(.int .i64)]⟩, ⟨.exit 0, [4], ⟨[(4, .int .i64 0)], [], 1274⟩, [(.int .i64)]⟩], fun (p : List Int × Int × Int × Int) => f_impl_wordsOk.l0 N p.1 p.2.1 p.2.2.1 p.2.2.2⟩
noncomputable abbrev K73 : Cons := [(114, C114)]
noncomputable abbrev L73 : List (Nat × Loops) := [(122, [(2, f_impl_wordsOk.l0.c)])]
abbrev Q73 : List (Nat × List (Int × Nat) × Nat) := []
noncomputable abbrev X73 : Nat → Ctx := ctxOf tb K73 L73 Q73
theorem f_impl_wordsOk.l0.ok : ∀ n p, (fun (p : List Int × Int × Int × Int) => f_impl_wordsOk.l0 n p.1 p.2.1 p.2.2.1 p.2.2.2) p = iterD (roundOf fs X73 4 122 2 true f_impl_wordsOk.l0.c) n p :=
  iter_of (l := fun n => fun (p : List Int × Int × Int × Int) => f_impl_wordsOk.l0 n p.1 p.2.1 p.2.2.1 p.2.2.2) (fun _ => rfl) (fun n p => by kernel_rfl)
theorem E73 : ∀ x, funRun fs X73 6 73 C73 x = C73.fn x := fun x => by kernel_rfl
theorem B73 : ConB Try.prog 73 C73 := ConB.make FS MIX TY (cons := K73) (L := L73) (ptrs := Q73) ⟨S114, trivial⟩ trivial ⟨⟨⟨N, fun p => f_impl_wordsOk.l0.ok N p⟩, trivial⟩, trivial⟩ rfl rfl E73
theorem S73 : ConS Try.prog 73 C73 := B73.call rfl
/-! impl.MsgOk: function 18 -/
noncomputable def f_impl_MsgOk (x0 : Int) (x1 : Int) (x2 : Bool) (x3 : List Int) : Option (Bool) :=
  (f_impl_from x0 1 7).bind fun y74 =>
  bif (!y74) then
    some false
  else
    (f_impl_isPage x1).bind fun y75 =>
    bif (!y75) then
      some false
    else
      bif x2 then
        bif (!(decide (x0 = (3 : Int)))) then
          bif (!(decide (x0 = (6 : Int)))) then
            some false
          else
            bif (decide (x0 = (3 : Int))) then
              (f_impl_wordsOk x3 4).bind fun y76 =>
              some y76
            else
              bif (decide (x0 = (7 : Int))) then
                (f_impl_wordsOk x3 4).bind fun y77 =>
                some y77
              else
                some (decide ((x3.length : Int) = (0 : Int)))
        else
          bif (decide (x0 = (3 : Int))) then
            (f_impl_wordsOk x3 4).bind fun y78 =>
            some y78
          else
            bif (decide (x0 = (7 : Int))) then
              (f_impl_wordsOk x3 4).bind fun y79 =>
              some y79
            else
              some (decide ((x3.length : Int) = (0 : Int)))
      else
        bif (decide (x0 = (3 : Int))) then
          (f_impl_wordsOk x3 4).bind fun y80 =>
          some y80
        else
          bif (decide (x0 = (7 : Int))) then
            (f_impl_wordsOk x3 4).bind fun y81 =>
            some y81
          else
            some (decide ((x3.length : Int) = (0 : Int)))
noncomputable def C18 : Con := ⟨[(.B, true, [(.int .i64), (.int .i64), .bool, (.sl R0)])], [(false, [.bool])], [(.int .i64), (.int .i64), .bool, (.sl R0)], [.bool], fun (p : Int × Int × Bool × List Int) => f_impl_MsgOk p.1 p.2.1 p.2.2.1 p.2.2.2⟩
noncomputable abbrev K18 : Cons := [(71, C71), (72, C72), (73, C73)]
noncomputable abbrev L18 : List (Nat × Loops) := []
abbrev Q18 : List (Nat × List (Int × Nat) × Nat) := []
noncomputable abbrev X18 : Nat → Ctx := ctxOf tb K18 L18 Q18
theorem E18 : ∀ x, funRun fs X18 6 18 C18 x = C18.fn x := fun x => by kernel_rfl
theorem B18 : ConB Try.prog 18 C18 := ConB.make FS MIX TY (cons := K18) (L := L18) (ptrs := Q18) ⟨S71, S72, S73, trivial⟩ trivial trivial rfl rfl E18
theorem S18 : ConS Try.prog 18 C18 := B18.call rfl
/-! impl.SenderOk$1: function 104 -/
noncomputable def f_impl_SenderOk_1 (x0 : Int) (x1 : Int) (x2 : Bool) (x3 : List Int) : Option (Bool) :=
  (f_impl_MsgOk x0 x1 x2 x3).bind fun y82 =>
  some (!y82)
noncomputable def C104 : Con := ⟨[(.B, true, [(.int .i64), (.int .i64), .bool, (.sl R0)])], [(false, [.bool])], [(.int .i64), (.int .i64), .bool, (.sl R0)], [.bool], fun (p : Int × Int × Bool × List Int) => f_impl_SenderOk_1 p.1 p.2.1 p.2.2.1 p.2.2.2⟩
noncomputable abbrev K104 : Cons := [(18, C18)]
noncomputable abbrev L104 : List (Nat × Loops) := []
abbrev Q104 : List (Nat × List (Int × Nat) × Nat) := []
noncomputable abbrev X104 : Nat → Ctx := ctxOf tb K104 L104 Q104
theorem E104 : ∀ x, funRun fs X104 6 104 C104 x = C104.fn x := fun x => by kernel_rfl
theorem B104 : ConB Try.prog 104 C104 := ConB.make FS MIX TY (cons := K104) (L := L104) (ptrs := Q104) ⟨S18, trivial⟩ trivial trivial rfl rfl E104
theorem S104 : ConS Try.prog 104 C104 := B104.call rfl
/-! impl.SenderOk: function 52 -/
noncomputable def f_impl_SenderOk.l0 : Nat → (List (Int × Int × Bool × List Int)) → Int → Int → Int → Int → (List (Int × Int × Bool × List Int)) → Option ((Int × Int × (List (Int × Int × Bool × List Int))) ⊕ (Int × Int × (List (Int × Int × Bool × List Int))))
  | 0, _, _, _, _, _, _ => none
  | n + 1, p84, p85, p86, p87, p88, p89 =>
    bif (decide (p87 < p86)) then
      bif ((decide ((0 : Int) ≤ p87)) && (decide (p87 < (p84.length : Int)))) then
      (f_impl_SenderOk_1 ((p84.getD p87.toNat (0, 0, false, [])).1) ((p84.getD p87.toNat (0, 0, false, [])).2.1) ((p84.getD p87.toNat (0, 0, false, [])).2.2.1) ((p84.getD p87.toNat (0, 0, false, [])).2.2.2)).bind fun y90 =>
      bif y90 then
        some (.inl (p87, p88, p89))
      else
        f_impl_SenderOk.l0 n p84 p85 p86 (IntKind.wrap .i64 (p87 + (1 : Int))) p88 p89
      else none
    else
      some (.inr (p85, p88, p89))
noncomputable def f_impl_SenderOk (x0 : Int) (x1 : List (Int × Int × Bool × List Int)) : Option (Bool) :=
  (f_impl_isSeq x0).bind fun y83 =>
  bif y83 then
    bif (decide ((x1.length : Int) ≤ (30 : Int))) then
      bif (decide ((IntKind.wrap .i64 (x0 + (x1.length : Int))) ≤ (100000 : Int))) then
        (f_impl_SenderOk.l0 N x1 0 (x1.length : Int) 0 x0 x1).bind fun r91 =>
        cs r91 (fun a92 =>
          some (!(decide ((0 : Int) ≤ a92.1)))) (fun b93 =>
          some true)
      else
        some false
    else
      some false
  else
    some false
noncomputable def C52 : Con := ⟨[(.B, true, [(.int .i64), (.sl R1)])], [(false, [.bool])], [(.int .i64), (.sl R1)], [.bool], fun (p : Int × (List (Int × Int × Bool × List Int))) => f_impl_SenderOk p.1 p.2⟩
noncomputable def f_impl_SenderOk.l0.c : LoopCon := ⟨1530, 4, [0, 1, 4, 7, 8], ⟨[(0, .bor none R1 []), (1, .func 104 []), (4, .int .i64 0), (7, .int .i64 0), (8, .int .i64 0)], [(1002, .box [.int .i64 0, .bor (some 1) R1 []])], 1530⟩, [(.sl R1), (.int .i64), (.int .i64), (.int .i64), (.int .i64), (.sl R1)], [⟨.ret, [4], ⟨[(4, .int .i64 0)], [(1002, .box [.int .i64 0, .bor (some 1) R1 []])], 1530⟩, [(.int .i64), (.int .i64), (.sl R1)]⟩, ⟨.exit 0, [4], ⟨[(4, .int .i64 0)], [(1002, .box [.int .i64 0, .bor (some 1) R1 []])], 1530⟩, [(.int .i64), (.int .i64), (.sl R1)]⟩], fun (p : (List (Int × Int × Bool × List Int)) × Int × Int × Int × Int × (List (Int × Int × Bool × List Int))) => f_impl_SenderOk.l0 N p.1 p.2.1 p.2.2.1 p.2.2.2.1 p.2.2.2.2.1 p.2.2.2.2.2⟩
noncomputable abbrev K52 : Cons := [(87, C87), (104, C104)]
noncomputable abbrev L52 : List (Nat × Loops) := [(120, [(2, f_impl_SenderOk.l0.c)])]
abbrev Q52 : List (Nat × List (Int × Nat) × Nat) := []
noncomputable abbrev X52 : Nat → Ctx := ctxOf tb K52 L52 Q52
theorem f_impl_SenderOk.l0.ok : ∀ n p, (fun (p : (List (Int × Int × Bool × List Int)) × Int × Int × Int × Int × (List (Int × Int × Bool × List Int))) => f_impl_SenderOk.l0 n p.1 p.2.1 p.2.2.1 p.2.2.2.1 p.2.2.2.2.1 p.2.2.2.2.2) p = iterD (roundOf fs X52 4 120 2 true f_impl_SenderOk.l0.c) n p :=
  iter_of (l := fun n => fun (p : (List (Int × Int × Bool × List Int)) × Int × Int × Int × Int × (List (Int × Int × Bool × List Int))) => f_impl_SenderOk.l0 n p.1 p.2.1 p.2.2.1 p.2.2.2.1 p.2.2.2.2.1 p.2.2.2.2.2) (fun _ => rfl) (fun n p => by kernel_rfl)
theorem E52 : ∀ x, funRun fs X52 6 52 C52 x = C52.fn x := fun x => by kernel_rfl
theorem B52 : ConB Try.prog 52 C52 := ConB.make FS MIX TY (cons := K52) (L := L52) (ptrs := Q52) ⟨S87, S104, trivial⟩ trivial ⟨⟨⟨N, fun p => f_impl_SenderOk.l0.ok N p⟩, trivial⟩, trivial⟩ rfl rfl E52
theorem S52 : ConS Try.prog 52 C52 := B52.call rfl
/-! laws.eqIntS: function 29 -/
noncomputable def f_laws_eqIntS.l0 : Nat → (List Int) → (List Int) → Bool → Int → Option ((Bool) ⊕ (Bool))
  | 0, _, _, _, _ => none
  | n + 1, p94, p95, p96, p97 =>
    bif (decide (p97 < (p94.length : Int))) then
      bif ((decide ((0 : Int) ≤ p97)) && (decide (p97 < (p94.length : Int)))) then
      bif ((decide ((0 : Int) ≤ p97)) && (decide (p97 < (p95.length : Int)))) then
      bif (!(decide ((p94.getD p97.toNat 0) = (p95.getD p97.toNat 0)))) then
        some (.inl false)
      else
        f_laws_eqIntS.l0 n p94 p95 p96 (IntKind.wrap .i64 (p97 + (1 : Int)))
      else none
      else none
    else
      some (.inr p96)
noncomputable def f_laws_eqIntS (x0 : List Int) (x1 : List Int) : Option (Bool) :=
  bif (!(decide ((x0.length : Int) = (x1.length : Int)))) then
    some false
  else
    (f_laws_eqIntS.l0 N x0 x1 false 0).bind fun r98 =>
    cs r98 (fun a99 =>
      some a99) (fun b100 =>
      some true)
noncomputable def C29 : Con := ⟨[(.B, false, [(.sl R0)]), (.B, false, [(.sl R0)])], [(false, [.bool])], [(.sl R0), (.sl R0)], [.bool], fun (p : List Int × List Int) => f_laws_eqIntS p.1 p.2⟩
noncomputable def f_laws_eqIntS.l0.c : LoopCon := ⟨1000, 6, [0, 1, 4, 5], ⟨[(0, .bor none R0 []), (1, .bor none R0 []), (4, .bool false), (5, .int .i64 0)], [], 1000⟩, [(.sl R0), (.sl R0), .bool, (.int .i64)], [⟨.ret, [4], ⟨[(4, .bool false)], [], 1000⟩, [.bool]⟩, ⟨.exit 0, [4], ⟨[(4, .bool false)], [], 1000⟩, [.bool]⟩], fun (p : List Int × List Int × Bool × Int) => f_laws_eqIntS.l0 N p.1 p.2.1 p.2.2.1 p.2.2.2⟩
noncomputable abbrev K29 : Cons := []
noncomputable abbrev L29 : List (Nat × Loops) := [(29, [(4, f_laws_eqIntS.l0.c)])]
abbrev Q29 : List (Nat × List (Int × Nat) × Nat) := []
noncomputable abbrev X29 : Nat → Ctx := ctxOf tb K29 L29 Q29
theorem f_laws_eqIntS.l0.ok : ∀ n p, (fun (p : List Int × List Int × Bool × Int) => f_laws_eqIntS.l0 n p.1 p.2.1 p.2.2.1 p.2.2.2) p = iterD (roundOf fs X29 6 29 4 false f_laws_eqIntS.l0.c) n p :=
  iter_of (l := fun n => fun (p : List Int × List Int × Bool × Int) => f_laws_eqIntS.l0 n p.1 p.2.1 p.2.2.1 p.2.2.2) (fun _ => rfl) (fun n p => by kernel_rfl)
theorem E29 : ∀ x, funRun fs X29 6 29 C29 x = C29.fn x := fun x => by kernel_rfl
theorem B29 : ConB Try.prog 29 C29 := ConB.make FS MIX TY (cons := K29) (L := L29) (ptrs := Q29) trivial trivial ⟨⟨⟨N, fun p => f_laws_eqIntS.l0.ok N p⟩, trivial⟩, trivial⟩ rfl rfl E29
theorem S29 : ConS Try.prog 29 C29 := B29.call rfl
/-! laws.eqMsg: function 19 -/
noncomputable def f_laws_eqMsg (x0 : Int) (x1 : Int) (x2 : Bool) (x3 : List Int) (x4 : Int) (x5 : Int) (x6 : Bool) (x7 : List Int) : Option (Bool) :=
  bif (!(decide (x0 = x4))) then
    some false
  else
    bif (!(decide (x1 = x5))) then
      some false
    else
      bif (!(x2 == x6)) then
        some false
      else
        (f_laws_eqIntS x3 x7).bind fun y101 =>
        bif (!y101) then
          some false
        else
          some true
noncomputable def C19 : Con := ⟨[(.B, true, [(.int .i64), (.int .i64), .bool, (.sl R0)]), (.B, true, [(.int .i64), (.int .i64), .bool, (.sl R0)])], [(false, [.bool])], [(.int .i64), (.int .i64), .bool, (.sl R0), (.int .i64), (.int .i64), .bool, (.sl R0)], [.bool], fun (p : Int × Int × Bool × List Int × Int × Int × Bool × List Int) => f_laws_eqMsg p.1 p.2.1 p.2.2.1 p.2.2.2.1 p.2.2.2.2.1 p.2.2.2.2.2.1 p.2.2.2.2.2.2.1 p.2.2.2.2.2.2.2⟩
noncomputable abbrev K19 : Cons := [(29, C29)]
noncomputable abbrev L19 : List (Nat × Loops) := []
abbrev Q19 : List (Nat × List (Int × Nat) × Nat) := []
noncomputable abbrev X19 : Nat → Ctx := ctxOf tb K19 L19 Q19
theorem E19 : ∀ x, funRun fs X19 6 19 C19 x = C19.fn x := fun x => by kernel_rfl
theorem B19 : ConB Try.prog 19 C19 := ConB.make FS MIX TY (cons := K19) (L := L19) (ptrs := Q19) ⟨S29, trivial⟩ trivial trivial rfl rfl E19
theorem S19 : ConS Try.prog 19 C19 := B19.call rfl
/-! laws.eqMsgS: function 105 -/
noncomputable def f_laws_eqMsgS.l0 : Nat → (List (Int × Int × Bool × List Int)) → (List (Int × Int × Bool × List Int)) → Bool → Int → Option ((Bool) ⊕ (Bool))
  | 0, _, _, _, _ => none
  | n + 1, p102, p103, p104, p105 =>
    bif (decide (p105 < (p102.length : Int))) then
      bif ((decide ((0 : Int) ≤ p105)) && (decide (p105 < (p102.length : Int)))) then
      bif ((decide ((0 : Int) ≤ p105)) && (decide (p105 < (p103.length : Int)))) then
      (f_laws_eqMsg ((p102.getD p105.toNat (0, 0, false, [])).1) ((p102.getD p105.toNat (0, 0, false, [])).2.1) ((p102.getD p105.toNat (0, 0, false, [])).2.2.1) ((p102.getD p105.toNat (0, 0, false, [])).2.2.2) ((p103.getD p105.toNat (0, 0, false, [])).1) ((p103.getD p105.toNat (0, 0, false, [])).2.1) ((p103.getD p105.toNat (0, 0, false, [])).2.2.1) ((p103.getD p105.toNat (0, 0, false, [])).2.2.2)).bind fun y106 =>
      bif (!y106) then
        some (.inl false)
      else
        f_laws_eqMsgS.l0 n p102 p103 p104 (IntKind.wrap .i64 (p105 + (1 : Int)))
      else none
      else none
    else
      some (.inr p104)
noncomputable def f_laws_eqMsgS (x0 : List (Int × Int × Bool × List Int)) (x1 : List (Int × Int × Bool × List Int)) : Option (Bool) :=
  bif (!(decide ((x0.length : Int) = (x1.length : Int)))) then
    some false
  else
    (f_laws_eqMsgS.l0 N x0 x1 false 0).bind fun r107 =>
    cs r107 (fun a108 =>
      some a108) (fun b109 =>
      some true)
noncomputable def C105 : Con := ⟨[(.B, false, [(.sl R1)]), (.B, false, [(.sl R1)])], [(false, [.bool])], [(.sl R1), (.sl R1)], [.bool], fun (p : (List (Int × Int × Bool × List Int)) × (List (Int × Int × Bool × List Int))) => f_laws_eqMsgS p.1 p.2⟩
noncomputable def f_laws_eqMsgS.l0.c : LoopCon := ⟨1000, 6, [0, 1, 4, 5], ⟨[(0, .bor none R1 []), (1, .bor none R1 []), (4, .bool false), (5, .int .i64 0)], [], 1000⟩, [(.sl R1), (.sl R1), .bool, (.int .i64)], [⟨.ret, [4], ⟨[(4, .bool false)], [], 1000⟩, [.bool]⟩, ⟨.exit 0, [4], ⟨[(4, .bool false)], [], 1000⟩, [.bool]⟩], fun (p : (List (Int × Int × Bool × List Int)) × (List (Int × Int × Bool × List Int)) × Bool × Int) => f_laws_eqMsgS.l0 N p.1 p.2.1 p.2.2.1 p.2.2.2⟩
noncomputable abbrev K105 : Cons := [(19, C19)]
noncomputable abbrev L105 : List (Nat × Loops) := [(105, [(4, f_laws_eqMsgS.l0.c)])]
abbrev Q105 : List (Nat × List (Int × Nat) × Nat) := []
noncomputable abbrev X105 : Nat → Ctx := ctxOf tb K105 L105 Q105
theorem f_laws_eqMsgS.l0.ok : ∀ n p, (fun (p : (List (Int × Int × Bool × List Int)) × (List (Int × Int × Bool × List Int)) × Bool × Int) => f_laws_eqMsgS.l0 n p.1 p.2.1 p.2.2.1 p.2.2.2) p = iterD (roundOf fs X105 6 105 4 false f_laws_eqMsgS.l0.c) n p :=
  iter_of (l := fun n => fun (p : (List (Int × Int × Bool × List Int)) × (List (Int × Int × Bool × List Int)) × Bool × Int) => f_laws_eqMsgS.l0 n p.1 p.2.1 p.2.2.1 p.2.2.2) (fun _ => rfl) (fun n p => by kernel_rfl)
theorem E105 : ∀ x, funRun fs X105 6 105 C105 x = C105.fn x := fun x => by kernel_rfl
theorem B105 : ConB Try.prog 105 C105 := ConB.make FS MIX TY (cons := K105) (L := L105) (ptrs := Q105) ⟨S19, trivial⟩ trivial ⟨⟨⟨N, fun p => f_laws_eqMsgS.l0.ok N p⟩, trivial⟩, trivial⟩ rfl rfl E105
theorem S105 : ConS Try.prog 105 C105 := B105.call rfl
/-! laws.eqSender: function 53 -/
noncomputable def f_laws_eqSender (x0 : Int) (x1 : List (Int × Int × Bool × List Int)) (x2 : Int) (x3 : List (Int × Int × Bool × List Int)) : Option (Bool) :=
  bif (!(decide (x0 = x2))) then
    some false
  else
    (f_laws_eqMsgS x1 x3).bind fun y110 =>
    bif (!y110) then
      some false
    else
      some true
noncomputable def C53 : Con := ⟨[(.B, true, [(.int .i64), (.sl R1)]), (.B, true, [(.int .i64), (.sl R1)])], [(false, [.bool])], [(.int .i64), (.sl R1), (.int .i64), (.sl R1)], [.bool], fun (p : Int × (List (Int × Int × Bool × List Int)) × Int × (List (Int × Int × Bool × List Int))) => f_laws_eqSender p.1 p.2.1 p.2.2.1 p.2.2.2⟩
noncomputable abbrev K53 : Cons := [(105, C105)]
noncomputable abbrev L53 : List (Nat × Loops) := []
abbrev Q53 : List (Nat × List (Int × Nat) × Nat) := []
noncomputable abbrev X53 : Nat → Ctx := ctxOf tb K53 L53 Q53
theorem E53 : ∀ x, funRun fs X53 6 53 C53 x = C53.fn x := fun x => by kernel_rfl
theorem B53 : ConB Try.prog 53 C53 := ConB.make FS MIX TY (cons := K53) (L := L53) (ptrs := Q53) ⟨S105, trivial⟩ trivial trivial rfl rfl E53
theorem S53 : ConS Try.prog 53 C53 := B53.call rfl
/-! laws.FnExactSenderOk: function 10 -/
noncomputable def f_laws_FnExactSenderOk (x0 : Int) (x1 : List (Int × Int × Bool × List Int)) : Option (Bool) :=
  (f_laws_szSender x0 x1 1048576).bind fun y111 =>
  bif (decide (y111 < (0 : Int))) then
    some true
  else
    (f_laws_toSender x0 x1).bind fun y112 =>
    (f_spec_SenderOk y112.1 y112.2).bind fun y113 =>
    (f_laws_toSender x0 x1).bind fun y114 =>
    (f_impl_SenderOk y114.1 y114.2).bind fun y115 =>
    bif (!(y115 == y113)) then
      some false
    else
      (f_laws_toSender x0 x1).bind fun y116 =>
      (f_laws_eqSender y114.1 y114.2 y116.1 y116.2).bind fun y117 =>
      bif (!y117) then
        some false
      else
        some true
noncomputable def C10 : Con := ⟨[(.B, true, [(.int .i64), (.sl R1)])], [(false, [.bool])], [(.int .i64), (.sl R1)], [.bool], fun (p : Int × (List (Int × Int × Bool × List Int))) => f_laws_FnExactSenderOk p.1 p.2⟩
noncomputable abbrev K10 : Cons := [(49, C49), (50, C50), (51, C51), (52, C52), (53, C53)]
noncomputable abbrev L10 : List (Nat × Loops) := []
abbrev Q10 : List (Nat × List (Int × Nat) × Nat) := []
noncomputable abbrev X10 : Nat → Ctx := ctxOf tb K10 L10 Q10
theorem E10 : ∀ x, funRun fs X10 6 10 C10 x = C10.fn x := fun x => by kernel_rfl
theorem B10 : ConB Try.prog 10 C10 := ConB.make FS MIX TY (cons := K10) (L := L10) (ptrs := Q10) ⟨S49, S50, S51, S52, S53, trivial⟩ trivial trivial rfl rfl E10
theorem S10 : ConS Try.prog 10 C10 := B10.call rfl
/-- What is left: the plain law. -/
def Pure : Prop := ∀ x : Tup [(.int .i64), (.sl R1)], WfT [(.int .i64), (.sl R1)] x → C10.fn x = some (true : Bool)
end
end Go.Abs
