import Derived.Test.YtekpagfagciflaaProg
import Derived.Test.YtekpagfagciflaaAbsC
import Derived.KernelRfl
namespace Go.Abs
open Go.Proofs
set_option linter.unusedVariables false
set_option maxRecDepth 100000
noncomputable section
abbrev N : Nat := 1152921504606846976
abbrev R0 : RT := .one (.int .i64)
noncomputable def tb : Tb := [(0, ⟨false, [], [], 0, 0⟩),
  (3, ⟨false, [(.int .i64)], [], 0, 8⟩),
  (4, ⟨false, [.bool], [], 0, 1⟩),
  (35, ⟨false, [], [], 0, 8⟩),
  (40, ⟨false, [(.sl R0)], [], 3, 24⟩),
  (42, ⟨true, [(.sl R0), (.int .i64), (.int .i64)], [(0, 40), (1, 3), (2, 3)], 0, 40⟩),
  (67, ⟨true, [(.sl R0), (.int .i64), (.int .i64)], [(0, 40), (1, 3), (2, 3)], 0, 40⟩)]
noncomputable def fsL : List (Nat × Func) := [(78, Try.f78), (45, Try.f45), (80, Try.f80), (47, Try.f47), (57, Try.f57), (79, Try.f79), (46, Try.f46), (58, Try.f58), (83, Try.f83), (88, Try.f88), (89, Try.f89), (87, Try.f87), (81, Try.f81), (82, Try.f82), (48, Try.f48), (61, Try.f61), (29, Try.f29), (12, Try.f12)]
noncomputable def fs : Nat → Option Func := getF fsL
theorem MIX : Try.prog.follows .mixedOrders = true := by kernel_rfl
theorem TY : tyCheck Try.prog tb = true := by kernel_rfl
theorem CAT : catCheck tb = true := by kernel_rfl
theorem FSP : FsP Try.prog fsL := ⟨Try.func78, Try.func45, Try.func80, Try.func47, Try.func57, Try.func79, Try.func46, Try.func58, Try.func83, Try.func88, Try.func89, Try.func87, Try.func81, Try.func82, Try.func48, Try.func61, Try.func29, Try.func12, trivial⟩
theorem FSC : (fsL.all fun p => fnChk p.2) = true := by kernel_rfl
theorem FS : FsS Try.prog fs := FsS.of FSP FSC
/-! laws.szIntS: function 78 -/
noncomputable def f_laws_szIntS (x0 : List Int) (x1 : Int) : Option (Int) :=
  bif (decide ((IntKind.wrap .i64 (x1 - (x0.length : Int))) < (0 : Int))) then
    some (-1)
  else
    some (IntKind.wrap .i64 (x1 - (x0.length : Int)))
noncomputable def C78 : Con := ⟨[(.B, false, [(.sl R0)]), (.B, false, [(.int .i64)])], [(false, [(.int .i64)])], [(.sl R0), (.int .i64)], [(.int .i64)], fun (p : List Int × Int) => f_laws_szIntS p.1 p.2⟩
noncomputable abbrev K78 : Cons := []
noncomputable abbrev L78 : List (Nat × Loops) := []
abbrev Q78 : List (Nat × List (Int × Nat) × Nat) := []
noncomputable abbrev X78 : Nat → Ctx := ctxOf tb K78 L78 Q78
theorem E78 : ∀ x, funRun fs X78 6 78 C78 x = C78.fn x := fun x => by kernel_rfl
theorem B78 : ConB Try.prog 78 C78 := ConB.make FS MIX TY (cons := K78) (L := L78) (ptrs := Q78) trivial trivial trivial rfl rfl E78
theorem S78 : ConS Try.prog 78 C78 := B78.call rfl
/-! laws.szHart: function 45 -/
noncomputable def f_laws_szHart (x0 : List Int) (x1 : Int) (x2 : Int) (x3 : Int) : Option (Int) :=
  (f_laws_szIntS x0 x3).bind fun y1 =>
  bif (decide (y1 < (0 : Int))) then
    some (-1)
  else
    some y1
noncomputable def C45 : Con := ⟨[(.B, true, [(.sl R0), (.int .i64), (.int .i64)]), (.B, false, [(.int .i64)])], [(false, [(.int .i64)])], [(.sl R0), (.int .i64), (.int .i64), (.int .i64)], [(.int .i64)], fun (p : List Int × Int × Int × Int) => f_laws_szHart p.1 p.2.1 p.2.2.1 p.2.2.2⟩
noncomputable abbrev K45 : Cons := [(78, C78)]
noncomputable abbrev L45 : List (Nat × Loops) := []
abbrev Q45 : List (Nat × List (Int × Nat) × Nat) := []
noncomputable abbrev X45 : Nat → Ctx := ctxOf tb K45 L45 Q45
theorem E45 : ∀ x, funRun fs X45 6 45 C45 x = C45.fn x := fun x => by kernel_rfl
theorem B45 : ConB Try.prog 45 C45 := ConB.make FS MIX TY (cons := K45) (L := L45) (ptrs := Q45) ⟨S78, trivial⟩ trivial trivial rfl rfl E45
theorem S45 : ConS Try.prog 45 C45 := B45.call rfl
/-! laws.toIntS: function 80 -/
noncomputable def f_laws_toIntS.l0 : Nat → (List Int) → Int → (List Int) → Option (List Int)
  | 0, _, _, _ => none
  | n + 1, p2, p3, p4 =>
    bif (decide (p3 < (p2.length : Int))) then
      bif ((decide ((0 : Int) ≤ p3)) && (decide (p3 < (p2.length : Int)))) then
      bif ((decide ((0 : Int) ≤ p3)) && (decide (p3 < (p4.length : Int)))) then
      (some ((p4.set p3.toNat (p2.getD p3.toNat 0)) : List Int)).bind fun z5 =>
      f_laws_toIntS.l0 n p2 (IntKind.wrap .i64 (p3 + (1 : Int))) z5
      else none
      else none
    else
      some p4
noncomputable def f_laws_toIntS (x0 : List Int) : Option (List Int) :=
  bif (decide ((0 : Int) ≤ (x0.length : Int)) && Nat.ble (x0.length : Int).toNat 17592186044416) then
  (f_laws_toIntS.l0 N x0 0 (List.replicate (x0.length : Int).toNat 0)).bind fun r6 =>
  some r6
  else none
noncomputable def C80 : Con := ⟨[(.B, false, [(.sl R0)])], [(false, [(.sl R0)])], [(.sl R0)], [(.sl R0)], fun (p : List Int) => f_laws_toIntS p⟩
noncomputable def f_laws_toIntS.l0.c : LoopCon := ⟨1000, 6, [0, 2, 3, 4], ⟨[(0, .bor none R0 []), (2, .nil (some R0)), (3, .ref 1000 [] none), (4, .int .i64 0)], [(1000, .row R0 [])], 1001⟩, [(.sl R0), (.int .i64), (.sl R0)], [⟨.exit 0, [2, 3], ⟨[(2, .nil (some R0)), (3, .ref 1000 [] none)], [(1000, .row R0 [])], 1001⟩, [(.sl R0)]⟩], fun (p : List Int × Int × List Int) => f_laws_toIntS.l0 N p.1 p.2.1 p.2.2⟩
noncomputable abbrev K80 : Cons := []
noncomputable abbrev L80 : List (Nat × Loops) := [(80, [(3, f_laws_toIntS.l0.c)])]
abbrev Q80 : List (Nat × List (Int × Nat) × Nat) := []
noncomputable abbrev X80 : Nat → Ctx := ctxOf tb K80 L80 Q80
theorem f_laws_toIntS.l0.ok : ∀ n p, (fun (p : List Int × Int × List Int) => f_laws_toIntS.l0 n p.1 p.2.1 p.2.2) p = iterD (roundOf fs X80 6 80 3 false f_laws_toIntS.l0.c) n p :=
  iter_of (l := fun n => fun (p : List Int × Int × List Int) => f_laws_toIntS.l0 n p.1 p.2.1 p.2.2) (fun _ => rfl) (fun n p => by kernel_rfl)
theorem E80 : ∀ x, funRun fs X80 6 80 C80 x = C80.fn x := fun x => by kernel_rfl
theorem B80 : ConB Try.prog 80 C80 := ConB.make FS MIX TY (cons := K80) (L := L80) (ptrs := Q80) trivial trivial ⟨⟨⟨N, fun p => f_laws_toIntS.l0.ok N p⟩, trivial⟩, trivial⟩ rfl rfl E80
theorem S80 : ConS Try.prog 80 C80 := B80.call rfl
/-! laws.toHart: function 47 -/
noncomputable def f_laws_toHart (x0 : List Int) (x1 : Int) (x2 : Int) : Option (List Int × Int × Int) :=
  (f_laws_toIntS x0).bind fun y7 =>
  some (y7, x1, x2)
noncomputable def C47 : Con := ⟨[(.B, true, [(.sl R0), (.int .i64), (.int .i64)])], [(true, [(.sl R0), (.int .i64), (.int .i64)])], [(.sl R0), (.int .i64), (.int .i64)], [(.sl R0), (.int .i64), (.int .i64)], fun (p : List Int × Int × Int) => f_laws_toHart p.1 p.2.1 p.2.2⟩
noncomputable abbrev K47 : Cons := [(80, C80)]
noncomputable abbrev L47 : List (Nat × Loops) := []
abbrev Q47 : List (Nat × List (Int × Nat) × Nat) := []
noncomputable abbrev X47 : Nat → Ctx := ctxOf tb K47 L47 Q47
theorem E47 : ∀ x, funRun fs X47 6 47 C47 x = C47.fn x := fun x => by kernel_rfl
theorem B47 : ConB Try.prog 47 C47 := ConB.make FS MIX TY (cons := K47) (L := L47) (ptrs := Q47) ⟨S80, trivial⟩ trivial trivial rfl rfl E47
theorem S47 : ConS Try.prog 47 C47 := B47.call rfl
/-! spec.l1In: function 57 -/
noncomputable def f_spec_l1In (x0 : Int) (x1 : Int) (x2 : Int) : Option (Bool) :=
  bif (decide (x1 ≤ x0)) then
    some (decide (x0 ≤ x2))
  else
    some false
noncomputable def C57 : Con := ⟨[(.B, false, [(.int .i64)]), (.B, false, [(.int .i64)]), (.B, false, [(.int .i64)])], [(false, [.bool])], [(.int .i64), (.int .i64), (.int .i64)], [.bool], fun (p : Int × Int × Int) => f_spec_l1In p.1 p.2.1 p.2.2⟩
noncomputable abbrev K57 : Cons := []
noncomputable abbrev L57 : List (Nat × Loops) := []
abbrev Q57 : List (Nat × List (Int × Nat) × Nat) := []
noncomputable abbrev X57 : Nat → Ctx := ctxOf tb K57 L57 Q57
theorem E57 : ∀ x, funRun fs X57 6 57 C57 x = C57.fn x := fun x => by kernel_rfl
theorem B57 : ConB Try.prog 57 C57 := ConB.make FS MIX TY (cons := K57) (L := L57) (ptrs := Q57) trivial trivial trivial rfl rfl E57
theorem S57 : ConS Try.prog 57 C57 := B57.call rfl
/-! spec.l1Words: function 79 -/
noncomputable def f_spec_l1Words.l0 : Nat → (List Int) → Int → Bool → Int → Option ((Bool) ⊕ (List Int × Int × Bool))
  | 0, _, _, _, _ => none
  | n + 1, p8, p9, p10, p11 =>
    bif (decide (p11 < (p8.length : Int))) then
      bif ((decide ((0 : Int) ≤ p11)) && (decide (p11 < (p8.length : Int)))) then
      (f_spec_l1In (p8.getD p11.toNat 0) 0 65535).bind fun y12 =>
      bif (!y12) then
        some (.inl false)
      else
        f_spec_l1Words.l0 n p8 p9 p10 (IntKind.wrap .i64 (p11 + (1 : Int)))
      else none
    else
      some (.inr (p8, p9, p10))
noncomputable def f_spec_l1Words (x0 : List Int) (x1 : Int) : Option (Bool) :=
  (f_spec_l1Words.l0 N x0 x1 false 0).bind fun r13 =>
  cs r13 (fun a14 =>
    some a14) (fun b15 =>
    some (decide ((b15.1.length : Int) = b15.2.1)))
noncomputable def C79 : Con := ⟨[(.B, false, [(.sl R0)]), (.B, false, [(.int .i64)])], [(false, [.bool])], [(.sl R0), (.int .i64)], [.bool], fun (p : List Int × Int) => f_spec_l1Words p.1 p.2⟩
noncomputable def f_spec_l1Words.l0.c : LoopCon := ⟨1000, 6, [0, 1, 4, 5], ⟨[(0, .bor none R0 []), (1, .int .i64 0), (4, .bool false), (5, .int .i64 0)], [], 1000⟩, [(.sl R0), (.int .i64), .bool, (.int .i64)], [⟨.ret, [4], ⟨[(4, .bool false)], [], 1000⟩, [.bool]⟩, ⟨.exit 0, [0, 1, 4], ⟨[(0, .bor none R0 []), (1, .int .i64 0), (4, .bool false)], [], 1000⟩, [(.sl R0), (.int .i64), .bool]⟩], fun (p : List Int × Int × Bool × Int) => f_spec_l1Words.l0 N p.1 p.2.1 p.2.2.1 p.2.2.2⟩
noncomputable abbrev K79 : Cons := [(57, C57)]
noncomputable abbrev L79 : List (Nat × Loops) := [(79, [(2, f_spec_l1Words.l0.c)])]
abbrev Q79 : List (Nat × List (Int × Nat) × Nat) := []
noncomputable abbrev X79 : Nat → Ctx := ctxOf tb K79 L79 Q79
theorem f_spec_l1Words.l0.ok : ∀ n p, (fun (p : List Int × Int × Bool × Int) => f_spec_l1Words.l0 n p.1 p.2.1 p.2.2.1 p.2.2.2) p = iterD (roundOf fs X79 6 79 2 false f_spec_l1Words.l0.c) n p :=
  iter_of (l := fun n => fun (p : List Int × Int × Bool × Int) => f_spec_l1Words.l0 n p.1 p.2.1 p.2.2.1 p.2.2.2) (fun _ => rfl) (fun n p => by kernel_rfl)
theorem E79 : ∀ x, funRun fs X79 6 79 C79 x = C79.fn x := fun x => by kernel_rfl
theorem B79 : ConB Try.prog 79 C79 := ConB.make FS MIX TY (cons := K79) (L := L79) (ptrs := Q79) ⟨S57, trivial⟩ trivial ⟨⟨⟨N, fun p => f_spec_l1Words.l0.ok N p⟩, trivial⟩, trivial⟩ rfl rfl E79
theorem S79 : ConS Try.prog 79 C79 := B79.call rfl
/-! spec.HartOk: function 46 -/
noncomputable def f_spec_HartOk (x0 : List Int) (x1 : Int) (x2 : Int) : Option (Bool) :=
  (f_spec_l1Words x0 4).bind fun y16 =>
  bif y16 then
    (f_spec_l1In x1 0 23).bind fun y17 =>
    bif y17 then
      (f_spec_l1In x2 0 2).bind fun y18 =>
      some y18
    else
      some false
  else
    some false
noncomputable def C46 : Con := ⟨[(.B, true, [(.sl R0), (.int .i64), (.int .i64)])], [(false, [.bool])], [(.sl R0), (.int .i64), (.int .i64)], [.bool], fun (p : List Int × Int × Int) => f_spec_HartOk p.1 p.2.1 p.2.2⟩
noncomputable abbrev K46 : Cons := [(57, C57), (79, C79)]
noncomputable abbrev L46 : List (Nat × Loops) := []
abbrev Q46 : List (Nat × List (Int × Nat) × Nat) := []
noncomputable abbrev X46 : Nat → Ctx := ctxOf tb K46 L46 Q46
theorem E46 : ∀ x, funRun fs X46 6 46 C46 x = C46.fn x := fun x => by kernel_rfl
theorem B46 : ConB Try.prog 46 C46 := ConB.make FS MIX TY (cons := K46) (L := L46) (ptrs := Q46) ⟨S57, S79, trivial⟩ trivial trivial rfl rfl E46
theorem S46 : ConS Try.prog 46 C46 := B46.call rfl
/-! impl.from: function 58 -/
noncomputable def f_impl_from (x0 : Int) (x1 : Int) (x2 : Int) : Option (Bool) :=
  bif (decide (x1 ≤ x0)) then
    some (decide (x0 ≤ x2))
  else
    some false
noncomputable def C58 : Con := ⟨[(.B, false, [(.int .i64)]), (.B, false, [(.int .i64)]), (.B, false, [(.int .i64)])], [(false, [.bool])], [(.int .i64), (.int .i64), (.int .i64)], [.bool], fun (p : Int × Int × Int) => f_impl_from p.1 p.2.1 p.2.2⟩
noncomputable abbrev K58 : Cons := []
noncomputable abbrev L58 : List (Nat × Loops) := []
abbrev Q58 : List (Nat × List (Int × Nat) × Nat) := []
noncomputable abbrev X58 : Nat → Ctx := ctxOf tb K58 L58 Q58
theorem E58 : ∀ x, funRun fs X58 6 58 C58 x = C58.fn x := fun x => by kernel_rfl
theorem B58 : ConB Try.prog 58 C58 := ConB.make FS MIX TY (cons := K58) (L := L58) (ptrs := Q58) trivial trivial trivial rfl rfl E58
theorem S58 : ConS Try.prog 58 C58 := B58.call rfl
/-! impl.isWord: function 83 -/
noncomputable def f_impl_isWord (x0 : Int) : Option (Bool) :=
  (f_impl_from x0 0 65535).bind fun y19 =>
  some y19
noncomputable def C83 : Con := ⟨[(.B, false, [(.int .i64)])], [(false, [.bool])], [(.int .i64)], [.bool], fun (p : Int) => f_impl_isWord p⟩
noncomputable abbrev K83 : Cons := [(58, C58)]
noncomputable abbrev L83 : List (Nat × Loops) := []
abbrev Q83 : List (Nat × List (Int × Nat) × Nat) := []
noncomputable abbrev X83 : Nat → Ctx := ctxOf tb K83 L83 Q83
theorem E83 : ∀ x, funRun fs X83 6 83 C83 x = C83.fn x := fun x => by kernel_rfl
theorem B83 : ConB Try.prog 83 C83 := ConB.make FS MIX TY (cons := K83) (L := L83) (ptrs := Q83) ⟨S58, trivial⟩ trivial trivial rfl rfl E83
theorem S83 : ConS Try.prog 83 C83 := B83.call rfl
/-! impl.wordsOk$1: function 88 -/
noncomputable def f_impl_wordsOk_1 (x0 : Int) : Option (Bool) :=
  (f_impl_isWord x0).bind fun y20 =>
  some (!y20)
noncomputable def C88 : Con := ⟨[(.B, false, [(.int .i64)])], [(false, [.bool])], [(.int .i64)], [.bool], fun (p : Int) => f_impl_wordsOk_1 p⟩
noncomputable abbrev K88 : Cons := [(83, C83)]
noncomputable abbrev L88 : List (Nat × Loops) := []
abbrev Q88 : List (Nat × List (Int × Nat) × Nat) := []
noncomputable abbrev X88 : Nat → Ctx := ctxOf tb K88 L88 Q88
theorem E88 : ∀ x, funRun fs X88 6 88 C88 x = C88.fn x := fun x => by kernel_rfl
theorem B88 : ConB Try.prog 88 C88 := ConB.make FS MIX TY (cons := K88) (L := L88) (ptrs := Q88) ⟨S83, trivial⟩ trivial trivial rfl rfl E88
theorem S88 : ConS Try.prog 88 C88 := B88.call rfl
/-! impl.wordsOk: function 81 -/
noncomputable def f_impl_wordsOk.l0 : Nat → (List Int) → Int → Int → Int → Option ((Int) ⊕ (Int))
  | 0, _, _, _, _ => none
  | n + 1, p21, p22, p23, p24 =>
    bif (decide (p24 < p23)) then
      bif ((decide ((0 : Int) ≤ p24)) && (decide (p24 < (p21.length : Int)))) then
      (f_impl_wordsOk_1 (p21.getD p24.toNat 0)).bind fun y25 =>
      bif y25 then
        some (.inl p24)
      else
        f_impl_wordsOk.l0 n p21 p22 p23 (IntKind.wrap .i64 (p24 + (1 : Int)))
      else none
    else
      some (.inr p22)
noncomputable def f_impl_wordsOk (x0 : List Int) (x1 : Int) : Option (Bool) :=
  bif (decide ((x0.length : Int) = x1)) then
    (f_impl_wordsOk.l0 N x0 0 (x0.length : Int) 0).bind fun r26 =>
    cs r26 (fun a27 =>
      some (!(decide ((0 : Int) ≤ a27)))) (fun b28 =>
      some true)
  else
    some false
noncomputable def C81 : Con := ⟨[(.B, false, [(.sl R0)]), (.B, false, [(.int .i64)])], [(false, [.bool])], [(.sl R0), (.int .i64)], [.bool], fun (p : List Int × Int) => f_impl_wordsOk p.1 p.2⟩
noncomputable def f_impl_wordsOk.l0.c : LoopCon := ⟨1274, 4, [0, 1, 4, 7, 8], ⟨[(0, .bor none R0 []), (1, .func 88 []), (4, .int .i64 0), (7, .int .i64 0), (8, .int .i64 0)], [], 1274⟩, [(.sl R0), (.int .i64), (.int .i64), (.int .i64)], [⟨.ret, [4], ⟨[(4, .int .i64 0)], [], 1274⟩, [(.int .i64)]⟩, ⟨.exit 0, [4], ⟨[(4, .int .i64 0)], [], 1274⟩, [(.int .i64)]⟩], fun (p : List Int × Int × Int × Int) => f_impl_wordsOk.l0 N p.1 p.2.1 p.2.2.1 p.2.2.2⟩
noncomputable abbrev K81 : Cons := [(88, C88)]
noncomputable abbrev L81 : List (Nat × Loops) := [(89, [(2, f_impl_wordsOk.l0.c)])]
abbrev Q81 : List (Nat × List (Int × Nat) × Nat) := []
noncomputable abbrev X81 : Nat → Ctx := ctxOf tb K81 L81 Q81
theorem f_impl_wordsOk.l0.ok : ∀ n p, (fun (p : List Int × Int × Int × Int) => f_impl_wordsOk.l0 n p.1 p.2.1 p.2.2.1 p.2.2.2) p = iterD (roundOf fs X81 4 89 2 true f_impl_wordsOk.l0.c) n p :=
  iter_of (l := fun n => fun (p : List Int × Int × Int × Int) => f_impl_wordsOk.l0 n p.1 p.2.1 p.2.2.1 p.2.2.2) (fun _ => rfl) (fun n p => by kernel_rfl)
theorem E81 : ∀ x, funRun fs X81 6 81 C81 x = C81.fn x := fun x => by kernel_rfl
theorem B81 : ConB Try.prog 81 C81 := ConB.make FS MIX TY (cons := K81) (L := L81) (ptrs := Q81) ⟨S88, trivial⟩ trivial ⟨⟨⟨N, fun p => f_impl_wordsOk.l0.ok N p⟩, trivial⟩, trivial⟩ rfl rfl E81
theorem S81 : ConS Try.prog 81 C81 := B81.call rfl
/-! impl.isCell: function 82 -/
noncomputable def f_impl_isCell (x0 : Int) : Option (Bool) :=
  (f_impl_from x0 0 23).bind fun y29 =>
  some y29
noncomputable def C82 : Con := ⟨[(.B, false, [(.int .i64)])], [(false, [.bool])], [(.int .i64)], [.bool], fun (p : Int) => f_impl_isCell p⟩
noncomputable abbrev K82 : Cons := [(58, C58)]
noncomputable abbrev L82 : List (Nat × Loops) := []
abbrev Q82 : List (Nat × List (Int × Nat) × Nat) := []
noncomputable abbrev X82 : Nat → Ctx := ctxOf tb K82 L82 Q82
theorem E82 : ∀ x, funRun fs X82 6 82 C82 x = C82.fn x := fun x => by kernel_rfl
theorem B82 : ConB Try.prog 82 C82 := ConB.make FS MIX TY (cons := K82) (L := L82) (ptrs := Q82) ⟨S58, trivial⟩ trivial trivial rfl rfl E82
theorem S82 : ConS Try.prog 82 C82 := B82.call rfl
/-! impl.HartOk: function 48 -/
noncomputable def f_impl_HartOk (x0 : List Int) (x1 : Int) (x2 : Int) : Option (Bool) :=
  (f_impl_wordsOk x0 4).bind fun y30 =>
  bif y30 then
    (f_impl_isCell x1).bind fun y31 =>
    bif y31 then
      (f_impl_from x2 0 2).bind fun y32 =>
      some y32
    else
      some false
  else
    some false
noncomputable def C48 : Con := ⟨[(.B, true, [(.sl R0), (.int .i64), (.int .i64)])], [(false, [.bool])], [(.sl R0), (.int .i64), (.int .i64)], [.bool], fun (p : List Int × Int × Int) => f_impl_HartOk p.1 p.2.1 p.2.2⟩
noncomputable abbrev K48 : Cons := [(58, C58), (81, C81), (82, C82)]
noncomputable abbrev L48 : List (Nat × Loops) := []
abbrev Q48 : List (Nat × List (Int × Nat) × Nat) := []
noncomputable abbrev X48 : Nat → Ctx := ctxOf tb K48 L48 Q48
theorem E48 : ∀ x, funRun fs X48 6 48 C48 x = C48.fn x := fun x => by kernel_rfl
theorem B48 : ConB Try.prog 48 C48 := ConB.make FS MIX TY (cons := K48) (L := L48) (ptrs := Q48) ⟨S58, S81, S82, trivial⟩ trivial trivial rfl rfl E48
theorem S48 : ConS Try.prog 48 C48 := B48.call rfl
/-! laws.eqIntS: function 61 -/
noncomputable def f_laws_eqIntS.l0 : Nat → (List Int) → (List Int) → Bool → Int → Option ((Bool) ⊕ (Bool))
  | 0, _, _, _, _ => none
  | n + 1, p33, p34, p35, p36 =>
    bif (decide (p36 < (p33.length : Int))) then
      bif ((decide ((0 : Int) ≤ p36)) && (decide (p36 < (p33.length : Int)))) then
      bif ((decide ((0 : Int) ≤ p36)) && (decide (p36 < (p34.length : Int)))) then
      bif (!(decide ((p33.getD p36.toNat 0) = (p34.getD p36.toNat 0)))) then
        some (.inl false)
      else
        f_laws_eqIntS.l0 n p33 p34 p35 (IntKind.wrap .i64 (p36 + (1 : Int)))
      else none
      else none
    else
      some (.inr p35)
noncomputable def f_laws_eqIntS (x0 : List Int) (x1 : List Int) : Option (Bool) :=
  bif (!(decide ((x0.length : Int) = (x1.length : Int)))) then
    some false
  else
    (f_laws_eqIntS.l0 N x0 x1 false 0).bind fun r37 =>
    cs r37 (fun a38 =>
      some a38) (fun b39 =>
      some true)
noncomputable def C61 : Con := ⟨[(.B, false, [(.sl R0)]), (.B, false, [(.sl R0)])], [(false, [.bool])], [(.sl R0), (.sl R0)], [.bool], fun (p : List Int × List Int) => f_laws_eqIntS p.1 p.2⟩
noncomputable def f_laws_eqIntS.l0.c : LoopCon := ⟨1000, 6, [0, 1, 4, 5], ⟨[(0, .bor none R0 []), (1, .bor none R0 []), (4, .bool false), (5, .int .i64 0)], [], 1000⟩, [(.sl R0), (.sl R0), .bool, (.int .i64)], [⟨.ret, [4], ⟨[(4, .bool false)], [], 1000⟩, [.bool]⟩, ⟨.exit 0, [4], ⟨[(4, .bool false)], [], 1000⟩, [.bool]⟩], fun (p : List Int × List Int × Bool × Int) => f_laws_eqIntS.l0 N p.1 p.2.1 p.2.2.1 p.2.2.2⟩
noncomputable abbrev K61 : Cons := []
noncomputable abbrev L61 : List (Nat × Loops) := [(61, [(4, f_laws_eqIntS.l0.c)])]
abbrev Q61 : List (Nat × List (Int × Nat) × Nat) := []
noncomputable abbrev X61 : Nat → Ctx := ctxOf tb K61 L61 Q61
theorem f_laws_eqIntS.l0.ok : ∀ n p, (fun (p : List Int × List Int × Bool × Int) => f_laws_eqIntS.l0 n p.1 p.2.1 p.2.2.1 p.2.2.2) p = iterD (roundOf fs X61 6 61 4 false f_laws_eqIntS.l0.c) n p :=
  iter_of (l := fun n => fun (p : List Int × List Int × Bool × Int) => f_laws_eqIntS.l0 n p.1 p.2.1 p.2.2.1 p.2.2.2) (fun _ => rfl) (fun n p => by kernel_rfl)
theorem E61 : ∀ x, funRun fs X61 6 61 C61 x = C61.fn x := fun x => by kernel_rfl
theorem B61 : ConB Try.prog 61 C61 := ConB.make FS MIX TY (cons := K61) (L := L61) (ptrs := Q61) trivial trivial ⟨⟨⟨N, fun p => f_laws_eqIntS.l0.ok N p⟩, trivial⟩, trivial⟩ rfl rfl E61
theorem S61 : ConS Try.prog 61 C61 := B61.call rfl
/-! laws.eqHart: function 29 -/
noncomputable def f_laws_eqHart (x0 : List Int) (x1 : Int) (x2 : Int) (x3 : List Int) (x4 : Int) (x5 : Int) : Option (Bool) :=
  (f_laws_eqIntS x0 x3).bind fun y40 =>
  bif (!y40) then
    some false
  else
    bif (!(decide (x1 = x4))) then
      some false
    else
      bif (!(decide (x2 = x5))) then
        some false
      else
        some true
noncomputable def C29 : Con := ⟨[(.B, true, [(.sl R0), (.int .i64), (.int .i64)]), (.B, true, [(.sl R0), (.int .i64), (.int .i64)])], [(false, [.bool])], [(.sl R0), (.int .i64), (.int .i64), (.sl R0), (.int .i64), (.int .i64)], [.bool], fun (p : List Int × Int × Int × List Int × Int × Int) => f_laws_eqHart p.1 p.2.1 p.2.2.1 p.2.2.2.1 p.2.2.2.2.1 p.2.2.2.2.2⟩
noncomputable abbrev K29 : Cons := [(61, C61)]
noncomputable abbrev L29 : List (Nat × Loops) := []
abbrev Q29 : List (Nat × List (Int × Nat) × Nat) := []
noncomputable abbrev X29 : Nat → Ctx := ctxOf tb K29 L29 Q29
theorem E29 : ∀ x, funRun fs X29 6 29 C29 x = C29.fn x := fun x => by kernel_rfl
theorem B29 : ConB Try.prog 29 C29 := ConB.make FS MIX TY (cons := K29) (L := L29) (ptrs := Q29) ⟨S61, trivial⟩ trivial trivial rfl rfl E29
theorem S29 : ConS Try.prog 29 C29 := B29.call rfl
/-! laws.FnExactHartOk: function 12 -/
noncomputable def f_laws_FnExactHartOk (x0 : List Int) (x1 : Int) (x2 : Int) : Option (Bool) :=
  (f_laws_szHart x0 x1 x2 1048576).bind fun y41 =>
  bif (decide (y41 < (0 : Int))) then
    some true
  else
    (f_laws_toHart x0 x1 x2).bind fun y42 =>
    (f_spec_HartOk y42.1 y42.2.1 y42.2.2).bind fun y43 =>
    (f_laws_toHart x0 x1 x2).bind fun y44 =>
    (f_impl_HartOk y44.1 y44.2.1 y44.2.2).bind fun y45 =>
    bif (!(y45 == y43)) then
      some false
    else
      (f_laws_toHart x0 x1 x2).bind fun y46 =>
      (f_laws_eqHart y44.1 y44.2.1 y44.2.2 y46.1 y46.2.1 y46.2.2).bind fun y47 =>
      bif (!y47) then
        some false
      else
        some true
noncomputable def C12 : Con := ⟨[(.B, true, [(.sl R0), (.int .i64), (.int .i64)])], [(false, [.bool])], [(.sl R0), (.int .i64), (.int .i64)], [.bool], fun (p : List Int × Int × Int) => f_laws_FnExactHartOk p.1 p.2.1 p.2.2⟩
noncomputable abbrev K12 : Cons := [(29, C29), (45, C45), (46, C46), (47, C47), (48, C48)]
noncomputable abbrev L12 : List (Nat × Loops) := []
abbrev Q12 : List (Nat × List (Int × Nat) × Nat) := []
noncomputable abbrev X12 : Nat → Ctx := ctxOf tb K12 L12 Q12
theorem E12 : ∀ x, funRun fs X12 6 12 C12 x = C12.fn x := fun x => by kernel_rfl
theorem B12 : ConB Try.prog 12 C12 := ConB.make FS MIX TY (cons := K12) (L := L12) (ptrs := Q12) ⟨S29, S45, S46, S47, S48, trivial⟩ trivial trivial rfl rfl E12
theorem S12 : ConS Try.prog 12 C12 := B12.call rfl
/-- What is left: the plain law. -/
def Pure : Prop := ∀ x : Tup [(.sl R0), (.int .i64), (.int .i64)], WfT [(.sl R0), (.int .i64), (.int .i64)] x → C12.fn x = some (true : Bool)
end
end Go.Abs
