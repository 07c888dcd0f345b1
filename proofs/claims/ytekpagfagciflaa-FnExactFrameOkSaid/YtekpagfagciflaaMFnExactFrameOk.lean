import Derived.Test.YtekpagfagciflaaProg
import Derived.Test.YtekpagfagciflaaAbsC
import Derived.KernelRfl
namespace Go.Abs
open Go.Proofs
set_option linter.unusedVariables false
set_option maxRecDepth 100000
noncomputable section
abbrev N : Nat := 1152921504606846976
abbrev R0 : RT := .one (.int .i64)
noncomputable def tb : Tb := [(0, ⟨false, [], [], 0, 0⟩),
  (3, ⟨false, [(.int .i64)], [], 0, 8⟩),
  (4, ⟨false, [.bool], [], 0, 1⟩),
  (35, ⟨false, [], [], 0, 8⟩),
  (40, ⟨false, [(.sl R0)], [], 3, 24⟩),
  (73, ⟨true, [(.int .i64), (.sl R0), .bool], [(0, 3), (1, 40), (2, 4)], 0, 40⟩),
  (76, ⟨true, [(.int .i64), (.sl R0), .bool], [(0, 3), (1, 40), (2, 4)], 0, 40⟩)]
noncomputable def fsL : List (Nat × Func) := [(78, Try.f78), (49, Try.f49), (80, Try.f80), (51, Try.f51), (57, Try.f57), (79, Try.f79), (50, Try.f50), (58, Try.f58), (83, Try.f83), (88, Try.f88), (89, Try.f89), (87, Try.f87), (81, Try.f81), (52, Try.f52), (61, Try.f61), (53, Try.f53), (13, Try.f13)]
noncomputable def fs : Nat → Option Func := getF fsL
theorem MIX : Try.prog.follows .mixedOrders = true := by kernel_rfl
theorem TY : tyCheck Try.prog tb = true := by kernel_rfl
theorem CAT : catCheck tb = true := by kernel_rfl
theorem FSP : FsP Try.prog fsL := ⟨Try.func78, Try.func49, Try.func80, Try.func51, Try.func57, Try.func79, Try.func50, Try.func58, Try.func83, Try.func88, Try.func89, Try.func87, Try.func81, Try.func52, Try.func61, Try.func53, Try.func13, trivial⟩
theorem FSC : (fsL.all fun p => fnChk p.2) = true := by kernel_rfl
theorem FS : FsS Try.prog fs := FsS.of FSP FSC
/-! laws.szIntS: function 78 -/
noncomputable def f_laws_szIntS (x0 : List Int) (x1 : Int) : Option (Int) :=
  bif (decide ((IntKind.wrap .i64 (x1 - (x0.length : Int))) < (0 : Int))) then
    some (-1)
  else
    some (IntKind.wrap .i64 (x1 - (x0.length : Int)))
noncomputable def C78 : Con := ⟨[(.B, false, [(.sl R0)]), (.B, false, [(.int .i64)])], [(false, [(.int .i64)])], [(.sl R0), (.int .i64)], [(.int .i64)], fun (p : List Int × Int) => f_laws_szIntS p.1 p.2⟩
noncomputable abbrev K78 : Cons := []
noncomputable abbrev L78 : List (Nat × Loops) := []
abbrev Q78 : List (Nat × List (Int × Nat) × Nat) := []
noncomputable abbrev X78 : Nat → Ctx := ctxOf tb K78 L78 Q78
theorem E78 : ∀ x, funRun fs X78 6 78 C78 x = C78.fn x := fun x => by kernel_rfl
theorem B78 : ConB Try.prog 78 C78 := ConB.make FS MIX TY (cons := K78) (L := L78) (ptrs := Q78) trivial trivial trivial rfl rfl E78
theorem S78 : ConS Try.prog 78 C78 := B78.call rfl
/-! laws.szFrame: function 49 -/
noncomputable def f_laws_szFrame (x0 : Int) (x1 : List Int) (x2 : Bool) (x3 : Int) : Option (Int) :=
  (f_laws_szIntS x1 x3).bind fun y1 =>
  bif (decide (y1 < (0 : Int))) then
    some (-1)
  else
    some y1
noncomputable def C49 : Con := ⟨[(.B, true, [(.int .i64), (.sl R0), .bool]), (.B, false, [(.int .i64)])], [(false, [(.int .i64)])], [(.int .i64), (.sl R0), .bool, (.int .i64)], [(.int .i64)], fun (p : Int × List Int × Bool × Int) => f_laws_szFrame p.1 p.2.1 p.2.2.1 p.2.2.2⟩
noncomputable abbrev K49 : Cons := [(78, C78)]
noncomputable abbrev L49 : List (Nat × Loops) := []
abbrev Q49 : List (Nat × List (Int × Nat) × Nat) := []
noncomputable abbrev X49 : Nat → Ctx := ctxOf tb K49 L49 Q49
theorem E49 : ∀ x, funRun fs X49 6 49 C49 x = C49.fn x := fun x => by kernel_rfl
theorem B49 : ConB Try.prog 49 C49 := ConB.make FS MIX TY (cons := K49) (L := L49) (ptrs := Q49) ⟨S78, trivial⟩ trivial trivial rfl rfl E49
theorem S49 : ConS Try.prog 49 C49 := B49.call rfl
/-! laws.toIntS: function 80 -/
noncomputable def f_laws_toIntS.l0 : Nat → (List Int) → Int → (List Int) → Option (List Int)
  | 0, _, _, _ => none
  | n + 1, p2, p3, p4 =>
    bif (decide (p3 < (p2.length : Int))) then
      bif ((decide ((0 : Int) ≤ p3)) && (decide (p3 < (p2.length : Int)))) then
      bif ((decide ((0 : Int) ≤ p3)) && (decide (p3 < (p4.length : Int)))) then
      (some ((p4.set p3.toNat (p2.getD p3.toNat 0)) : List Int)).bind fun z5 =>
      f_laws_toIntS.l0 n p2 (IntKind.wrap .i64 (p3 + (1 : Int))) z5
      else none
      else none
    else
      some p4
noncomputable def f_laws_toIntS (x0 : List Int) : Option (List Int) :=
  bif (decide ((0 : Int) ≤ (x0.length : Int)) && Nat.ble (x0.length : Int).toNat 17592186044416) then
  (f_laws_toIntS.l0 N x0 0 (List.replicate (x0.length : Int).toNat 0)).bind fun r6 =>
  some r6
  else none
noncomputable def C80 : Con := ⟨[(.B, false, [(.sl R0)])], [(false, [(.sl R0)])], [(.sl R0)], [(.sl R0)], fun (p : List Int) => f_laws_toIntS p⟩
noncomputable def f_laws_toIntS.l0.c : LoopCon := ⟨1000, 6, [0, 2, 3, 4], ⟨[(0, .bor none R0 []), (2, .nil (some R0)), (3, .ref 1000 [] none), (4, .int .i64 0)], [(1000, .row R0 [])], 1001⟩, [(.sl R0), (.int .i64), (.sl R0)], [⟨.exit 0, [2, 3], ⟨[(2, .nil (some R0)), (3, .ref 1000 [] none)], [(1000, .row R0 [])], 1001⟩, [(.sl R0)]⟩], fun (p : List Int × Int × List Int) => f_laws_toIntS.l0 N p.1 p.2.1 p.2.2⟩
noncomputable abbrev K80 : Cons := []
noncomputable abbrev L80 : List (Nat × Loops) := [(80, [(3, f_laws_toIntS.l0.c)])]
abbrev Q80 : List (Nat × List (Int × Nat) × Nat) := []
noncomputable abbrev X80 : Nat → Ctx := ctxOf tb K80 L80 Q80
theorem f_laws_toIntS.l0.ok : ∀ n p, (fun (p : List Int × Int × List Int) => f_laws_toIntS.l0 n p.1 p.2.1 p.2.2) p = iterD (roundOf fs X80 6 80 3 false f_laws_toIntS.l0.c) n p :=
  iter_of (l := fun n => fun (p : List Int × Int × List Int) => f_laws_toIntS.l0 n p.1 p.2.1 p.2.2) (fun _ => rfl) (fun n p => by kernel_rfl)
theorem E80 : ∀ x, funRun fs X80 6 80 C80 x = C80.fn x := fun x => by kernel_rfl
theorem B80 : ConB Try.prog 80 C80 := ConB.make FS MIX TY (cons := K80) (L := L80) (ptrs := Q80) trivial trivial ⟨⟨⟨N, fun p => f_laws_toIntS.l0.ok N p⟩, trivial⟩, trivial⟩ rfl rfl E80
theorem S80 : ConS Try.prog 80 C80 := B80.call rfl
/-! laws.toFrame: function 51 -/
noncomputable def f_laws_toFrame (x0 : Int) (x1 : List Int) (x2 : Bool) : Option (Int × List Int × Bool) :=
  (f_laws_toIntS x1).bind fun y7 =>
  some (x0, y7, x2)
noncomputable def C51 : Con := ⟨[(.B, true, [(.int .i64), (.sl R0), .bool])], [(true, [(.int .i64), (.sl R0), .bool])], [(.int .i64), (.sl R0), .bool], [(.int .i64), (.sl R0), .bool], fun (p : Int × List Int × Bool) => f_laws_toFrame p.1 p.2.1 p.2.2⟩
noncomputable abbrev K51 : Cons := [(80, C80)]
noncomputable abbrev L51 : List (Nat × Loops) := []
abbrev Q51 : List (Nat × List (Int × Nat) × Nat) := []
noncomputable abbrev X51 : Nat → Ctx := ctxOf tb K51 L51 Q51
theorem E51 : ∀ x, funRun fs X51 6 51 C51 x = C51.fn x := fun x => by kernel_rfl
theorem B51 : ConB Try.prog 51 C51 := ConB.make FS MIX TY (cons := K51) (L := L51) (ptrs := Q51) ⟨S80, trivial⟩ trivial trivial rfl rfl E51
theorem S51 : ConS Try.prog 51 C51 := B51.call rfl
/-! spec.l1In: function 57 -/
noncomputable def f_spec_l1In (x0 : Int) (x1 : Int) (x2 : Int) : Option (Bool) :=
  bif (decide (x1 ≤ x0)) then
    some (decide (x0 ≤ x2))
  else
    some false
noncomputable def C57 : Con := ⟨[(.B, false, [(.int .i64)]), (.B, false, [(.int .i64)]), (.B, false, [(.int .i64)])], [(false, [.bool])], [(.int .i64), (.int .i64), (.int .i64)], [.bool], fun (p : Int × Int × Int) => f_spec_l1In p.1 p.2.1 p.2.2⟩
noncomputable abbrev K57 : Cons := []
noncomputable abbrev L57 : List (Nat × Loops) := []
abbrev Q57 : List (Nat × List (Int × Nat) × Nat) := []
noncomputable abbrev X57 : Nat → Ctx := ctxOf tb K57 L57 Q57
theorem E57 : ∀ x, funRun fs X57 6 57 C57 x = C57.fn x := fun x => by kernel_rfl
theorem B57 : ConB Try.prog 57 C57 := ConB.make FS MIX TY (cons := K57) (L := L57) (ptrs := Q57) trivial trivial trivial rfl rfl E57
theorem S57 : ConS Try.prog 57 C57 := B57.call rfl
/-! spec.l1Words: function 79 -/
noncomputable def f_spec_l1Words.l0 : Nat → (List Int) → Int → Bool → Int → Option ((Bool) ⊕ (List Int × Int × Bool))
  | 0, _, _, _, _ => none
  | n + 1, p8, p9, p10, p11 =>
    bif (decide (p11 < (p8.length : Int))) then
      bif ((decide ((0 : Int) ≤ p11)) && (decide (p11 < (p8.length : Int)))) then
      (f_spec_l1In (p8.getD p11.toNat 0) 0 65535).bind fun y12 =>
      bif (!y12) then
        some (.inl false)
      else
        f_spec_l1Words.l0 n p8 p9 p10 (IntKind.wrap .i64 (p11 + (1 : Int)))
      else none
    else
      some (.inr (p8, p9, p10))
noncomputable def f_spec_l1Words (x0 : List Int) (x1 : Int) : Option (Bool) :=
  (f_spec_l1Words.l0 N x0 x1 false 0).bind fun r13 =>
  cs r13 (fun a14 =>
    some a14) (fun b15 =>
    some (decide ((b15.1.length : Int) = b15.2.1)))
noncomputable def C79 : Con := ⟨[(.B, false, [(.sl R0)]), (.B, false, [(.int .i64)])], [(false, [.bool])], [(.sl R0), (.int .i64)], [.bool], fun (p : List Int × Int) => f_spec_l1Words p.1 p.2⟩
noncomputable def f_spec_l1Words.l0.c : LoopCon := ⟨1000, 6, [0, 1, 4, 5], ⟨[(0, .bor none R0 []), (1, .int .i64 0), (4, .bool false), (5, .int .i64 0)], [], 1000⟩, [(.sl R0), (.int .i64), .bool, (.int .i64)], [⟨.ret, [4], ⟨[(4, .bool false)], [], 1000⟩, [.bool]⟩, ⟨.exit 0, [0, 1, 4], ⟨[(0, .bor none R0 []), (1, .int .i64 0), (4, .bool false)], [], 1000⟩, [(.sl R0), (.int .i64), .bool]⟩], fun (p : List Int × Int × Bool × Int) => f_spec_l1Words.l0 N p.1 p.2.1 p.2.2.1 p.2.2.2⟩
noncomputable abbrev K79 : Cons := [(57, C57)]
noncomputable abbrev L79 : List (Nat × Loops) := [(79, [(2, f_spec_l1Words.l0.c)])]
abbrev Q79 : List (Nat × List (Int × Nat) × Nat) := []
noncomputable abbrev X79 : Nat → Ctx := ctxOf tb K79 L79 Q79
theorem f_spec_l1Words.l0.ok : ∀ n p, (fun (p : List Int × Int × Bool × Int) => f_spec_l1Words.l0 n p.1 p.2.1 p.2.2.1 p.2.2.2) p = iterD (roundOf fs X79 6 79 2 false f_spec_l1Words.l0.c) n p :=
  iter_of (l := fun n => fun (p : List Int × Int × Bool × Int) => f_spec_l1Words.l0 n p.1 p.2.1 p.2.2.1 p.2.2.2) (fun _ => rfl) (fun n p => by kernel_rfl)
theorem E79 : ∀ x, funRun fs X79 6 79 C79 x = C79.fn x := fun x => by kernel_rfl
theorem B79 : ConB Try.prog 79 C79 := ConB.make FS MIX TY (cons := K79) (L := L79) (ptrs := Q79) ⟨S57, trivial⟩ trivial ⟨⟨⟨N, fun p => f_spec_l1Words.l0.ok N p⟩, trivial⟩, trivial⟩ rfl rfl E79
theorem S79 : ConS Try.prog 79 C79 := B79.call rfl
/-! spec.FrameOk: function 50 -/
noncomputable def f_spec_FrameOk (x0 : Int) (x1 : List Int) (x2 : Bool) : Option (Bool) :=
  bif (decide (x0 = (0 : Int))) then
    some (decide ((x1.length : Int) = (0 : Int)))
  else
    (f_spec_l1In x0 0 2).bind fun y16 =>
    bif y16 then
      (f_spec_l1Words x1 4).bind fun y17 =>
      some y17
    else
      some false
noncomputable def C50 : Con := ⟨[(.B, true, [(.int .i64), (.sl R0), .bool])], [(false, [.bool])], [(.int .i64), (.sl R0), .bool], [.bool], fun (p : Int × List Int × Bool) => f_spec_FrameOk p.1 p.2.1 p.2.2⟩
noncomputable abbrev K50 : Cons := [(57, C57), (79, C79)]
noncomputable abbrev L50 : List (Nat × Loops) := []
abbrev Q50 : List (Nat × List (Int × Nat) × Nat) := []
noncomputable abbrev X50 : Nat → Ctx := ctxOf tb K50 L50 Q50
theorem E50 : ∀ x, funRun fs X50 6 50 C50 x = C50.fn x := fun x => by kernel_rfl
theorem B50 : ConB Try.prog 50 C50 := ConB.make FS MIX TY (cons := K50) (L := L50) (ptrs := Q50) ⟨S57, S79, trivial⟩ trivial trivial rfl rfl E50
theorem S50 : ConS Try.prog 50 C50 := B50.call rfl
/-! impl.from: function 58 -/
noncomputable def f_impl_from (x0 : Int) (x1 : Int) (x2 : Int) : Option (Bool) :=
  bif (decide (x1 ≤ x0)) then
    some (decide (x0 ≤ x2))
  else
    some false
noncomputable def C58 : Con := ⟨[(.B, false, [(.int .i64)]), (.B, false, [(.int .i64)]), (.B, false, [(.int .i64)])], [(false, [.bool])], [(.int .i64), (.int .i64), (.int .i64)], [.bool], fun (p : Int × Int × Int) => f_impl_from p.1 p.2.1 p.2.2⟩
noncomputable abbrev K58 : Cons := []
noncomputable abbrev L58 : List (Nat × Loops) := []
abbrev Q58 : List (Nat × List (Int × Nat) × Nat) := []
noncomputable abbrev X58 : Nat → Ctx := ctxOf tb K58 L58 Q58
theorem E58 : ∀ x, funRun fs X58 6 58 C58 x = C58.fn x := fun x => by kernel_rfl
theorem B58 : ConB Try.prog 58 C58 := ConB.make FS MIX TY (cons := K58) (L := L58) (ptrs := Q58) trivial trivial trivial rfl rfl E58
theorem S58 : ConS Try.prog 58 C58 := B58.call rfl
/-! impl.isWord: function 83 -/
noncomputable def f_impl_isWord (x0 : Int) : Option (Bool) :=
  (f_impl_from x0 0 65535).bind fun y18 =>
  some y18
noncomputable def C83 : Con := ⟨[(.B, false, [(.int .i64)])], [(false, [.bool])], [(.int .i64)], [.bool], fun (p : Int) => f_impl_isWord p⟩
noncomputable abbrev K83 : Cons := [(58, C58)]
noncomputable abbrev L83 : List (Nat × Loops) := []
abbrev Q83 : List (Nat × List (Int × Nat) × Nat) := []
noncomputable abbrev X83 : Nat → Ctx := ctxOf tb K83 L83 Q83
theorem E83 : ∀ x, funRun fs X83 6 83 C83 x = C83.fn x := fun x => by kernel_rfl
theorem B83 : ConB Try.prog 83 C83 := ConB.make FS MIX TY (cons := K83) (L := L83) (ptrs := Q83) ⟨S58, trivial⟩ trivial trivial rfl rfl E83
theorem S83 : ConS Try.prog 83 C83 := B83.call rfl
/-! impl.wordsOk$1: function 88 -/
noncomputable def f_impl_wordsOk_1 (x0 : Int) : Option (Bool) :=
  (f_impl_isWord x0).bind fun y19 =>
  some (!y19)
noncomputable def C88 : Con := ⟨[(.B, false, [(.int .i64)])], [(false, [.bool])], [(.int .i64)], [.bool], fun (p : Int) => f_impl_wordsOk_1 p⟩
noncomputable abbrev K88 : Cons := [(83, C83)]
noncomputable abbrev L88 : List (Nat × Loops) := []
abbrev Q88 : List (Nat × List (Int × Nat) × Nat) := []
noncomputable abbrev X88 : Nat → Ctx := ctxOf tb K88 L88 Q88
theorem E88 : ∀ x, funRun fs X88 6 88 C88 x = C88.fn x := fun x => by kernel_rfl
theorem B88 : ConB Try.prog 88 C88 := ConB.make FS MIX TY (cons := K88) (L := L88) (ptrs := Q88) ⟨S83, trivial⟩ trivial trivial rfl rfl E88
theorem S88 : ConS Try.prog 88 C88 := B88.call rfl
/-! impl.wordsOk: function 81 -/
noncomputable def f_impl_wordsOk.l0 : Nat → (List Int) → Int → Int → Int → Option ((Int) ⊕ (Int))
  | 0, _, _, _, _ => none
  | n + 1, p20, p21, p22, p23 =>
    bif (decide (p23 < p22)) then
      bif ((decide ((0 : Int) ≤ p23)) && (decide (p23 < (p20.length : Int)))) then
      (f_impl_wordsOk_1 (p20.getD p23.toNat 0)).bind fun y24 =>
      bif y24 then
        some (.inl p23)
      else
        f_impl_wordsOk.l0 n p20 p21 p22 (IntKind.wrap .i64 (p23 + (1 : Int)))
      else none
    else
      some (.inr p21)
noncomputable def f_impl_wordsOk (x0 : List Int) (x1 : Int) : Option (Bool) :=
  bif (decide ((x0.length : Int) = x1)) then
    (f_impl_wordsOk.l0 N x0 0 (x0.length : Int) 0).bind fun r25 =>
    cs r25 (fun a26 =>
      some (!(decide ((0 : Int) ≤ a26)))) (fun b27 =>
      some true)
  else
    some false
noncomputable def C81 : Con := ⟨[(.B, false, [(.sl R0)]), (.B, false, [(.int .i64)])], [(false, [.bool])], [(.sl R0), (.int .i64)], [.bool], fun (p : List Int × Int) => f_impl_wordsOk p.1 p.2⟩
noncomputable def f_impl_wordsOk.l0.c : LoopCon := ⟨1274, 4, [0, 1, 4, 7, 8], ⟨[(0, .bor none R0 []), (1, .func 88 []), (4, .int .i64 0), (7, .int .i64 0), (8, .int .i64 0)], [], 1274⟩, [(.sl R0), (.int .i64), (.int .i64), (.int .i64)], [⟨.ret, [4], ⟨[(4, .int .i64 0)], [], 1274⟩, [(.int .i64)]⟩, ⟨.exit 0, [4], ⟨[(4, .int .i64 0)], [], 1274⟩, [(.int .i64)]⟩], fun (p : List Int × Int × Int × Int) => f_impl_wordsOk.l0 N p.1 p.2.1 p.2.2.1 p.2.2.2⟩
noncomputable abbrev K81 : Cons := [(88, C88)]
noncomputable abbrev L81 : List (Nat × Loops) := [(89, [(2, f_impl_wordsOk.l0.c)])]
abbrev Q81 : List (Nat × List (Int × Nat) × Nat) := []
noncomputable abbrev X81 : Nat → Ctx := ctxOf tb K81 L81 Q81
theorem f_impl_wordsOk.l0.ok : ∀ n p, (fun (p : List Int × Int × Int × Int) => f_impl_wordsOk.l0 n p.1 p.2.1 p.2.2.1 p.2.2.2) p = iterD (roundOf fs X81 4 89 2 true f_impl_wordsOk.l0.c) n p :=
  iter_of (l := fun n => fun (p : List Int × Int × Int × Int) => f_impl_wordsOk.l0 n p.1 p.2.1 p.2.2.1 p.2.2.2) (fun _ => rfl) (fun n p => by kernel_rfl)
theorem E81 : ∀ x, funRun fs X81 6 81 C81 x = C81.fn x := fun x => by kernel_rfl
theorem B81 : ConB Try.prog 81 C81 := ConB.make FS MIX TY (cons := K81) (L := L81) (ptrs := Q81) ⟨S88, trivial⟩ trivial ⟨⟨⟨N, fun p => f_impl_wordsOk.l0.ok N p⟩, trivial⟩, trivial⟩ rfl rfl E81
theorem S81 : ConS Try.prog 81 C81 := B81.call rfl
/-! impl.FrameOk: function 52 -/
noncomputable def f_impl_FrameOk (x0 : Int) (x1 : List Int) (x2 : Bool) : Option (Bool) :=
  bif (decide (x0 = (0 : Int))) then
    some (decide ((x1.length : Int) = (0 : Int)))
  else
    bif (decide (x0 = (1 : Int))) then
      (f_impl_wordsOk x1 4).bind fun y28 =>
      some y28
    else
      bif (decide (x0 = (2 : Int))) then
        (f_impl_wordsOk x1 4).bind fun y29 =>
        some y29
      else
        some false
noncomputable def C52 : Con := ⟨[(.B, true, [(.int .i64), (.sl R0), .bool])], [(false, [.bool])], [(.int .i64), (.sl R0), .bool], [.bool], fun (p : Int × List Int × Bool) => f_impl_FrameOk p.1 p.2.1 p.2.2⟩
noncomputable abbrev K52 : Cons := [(81, C81)]
noncomputable abbrev L52 : List (Nat × Loops) := []
abbrev Q52 : List (Nat × List (Int × Nat) × Nat) := []
noncomputable abbrev X52 : Nat → Ctx := ctxOf tb K52 L52 Q52
theorem E52 : ∀ x, funRun fs X52 6 52 C52 x = C52.fn x := fun x => by kernel_rfl
theorem B52 : ConB Try.prog 52 C52 := ConB.make FS MIX TY (cons := K52) (L := L52) (ptrs := Q52) ⟨S81, trivial⟩ trivial trivial rfl rfl E52
theorem S52 : ConS Try.prog 52 C52 := B52.call rfl
/-! laws.eqIntS: function 61 -/
noncomputable def f_laws_eqIntS.l0 : Nat → (List Int) → (List Int) → Bool → Int → Option ((Bool) ⊕ (Bool))
  | 0, _, _, _, _ => none
  | n + 1, p30, p31, p32, p33 =>
    bif (decide (p33 < (p30.length : Int))) then
      bif ((decide ((0 : Int) ≤ p33)) && (decide (p33 < (p30.length : Int)))) then
      bif ((decide ((0 : Int) ≤ p33)) && (decide (p33 < (p31.length : Int)))) then
      bif (!(decide ((p30.getD p33.toNat 0) = (p31.getD p33.toNat 0)))) then
        some (.inl false)
      else
        f_laws_eqIntS.l0 n p30 p31 p32 (IntKind.wrap .i64 (p33 + (1 : Int)))
      else none
      else none
    else
      some (.inr p32)
noncomputable def f_laws_eqIntS (x0 : List Int) (x1 : List Int) : Option (Bool) :=
  bif (!(decide ((x0.length : Int) = (x1.length : Int)))) then
    some false
  else
    (f_laws_eqIntS.l0 N x0 x1 false 0).bind fun r34 =>
    cs r34 (fun a35 =>
      some a35) (fun b36 =>
      some true)
noncomputable def C61 : Con := ⟨[(.B, false, [(.sl R0)]), (.B, false, [(.sl R0)])], [(false, [.bool])], [(.sl R0), (.sl R0)], [.bool], fun (p : List Int × List Int) => f_laws_eqIntS p.1 p.2⟩
noncomputable def f_laws_eqIntS.l0.c : LoopCon := ⟨1000, 6, [0, 1, 4, 5], ⟨[(0, .bor none R0 []), (1, .bor none R0 []), (4, .bool false), (5, .int .i64 0)], [], 1000⟩, [(.sl R0), (.sl R0), .bool, (.int .i64)], [⟨.ret, [4], ⟨[(4, .bool false)], [], 1000⟩, [.bool]⟩, ⟨.exit 0, [4], ⟨[(4, .bool false)], [], 1000⟩, [.bool]⟩], fun (p : List Int × List Int × Bool × Int) => f_laws_eqIntS.l0 N p.1 p.2.1 p.2.2.1 p.2.2.2⟩
noncomputable abbrev K61 : Cons := []
noncomputable abbrev L61 : List (Nat × Loops) := [(61, [(4, f_laws_eqIntS.l0.c)])]
abbrev Q61 : List (Nat × List (Int × Nat) × Nat) := []
noncomputable abbrev X61 : Nat → Ctx := ctxOf tb K61 L61 Q61
theorem f_laws_eqIntS.l0.ok : ∀ n p, (fun (p : List Int × List Int × Bool × Int) => f_laws_eqIntS.l0 n p.1 p.2.1 p.2.2.1 p.2.2.2) p = iterD (roundOf fs X61 6 61 4 false f_laws_eqIntS.l0.c) n p :=
  iter_of (l := fun n => fun (p : List Int × List Int × Bool × Int) => f_laws_eqIntS.l0 n p.1 p.2.1 p.2.2.1 p.2.2.2) (fun _ => rfl) (fun n p => by kernel_rfl)
theorem E61 : ∀ x, funRun fs X61 6 61 C61 x = C61.fn x := fun x => by kernel_rfl
theorem B61 : ConB Try.prog 61 C61 := ConB.make FS MIX TY (cons := K61) (L := L61) (ptrs := Q61) trivial trivial ⟨⟨⟨N, fun p => f_laws_eqIntS.l0.ok N p⟩, trivial⟩, trivial⟩ rfl rfl E61
theorem S61 : ConS Try.prog 61 C61 := B61.call rfl
/-! laws.eqFrame: function 53 -/
noncomputable def f_laws_eqFrame (x0 : Int) (x1 : List Int) (x2 : Bool) (x3 : Int) (x4 : List Int) (x5 : Bool) : Option (Bool) :=
  bif (!(decide (x0 = x3))) then
    some false
  else
    (f_laws_eqIntS x1 x4).bind fun y37 =>
    bif (!y37) then
      some false
    else
      bif (!(x2 == x5)) then
        some false
      else
        some true
noncomputable def C53 : Con := ⟨[(.B, true, [(.int .i64), (.sl R0), .bool]), (.B, true, [(.int .i64), (.sl R0), .bool])], [(false, [.bool])], [(.int .i64), (.sl R0), .bool, (.int .i64), (.sl R0), .bool], [.bool], fun (p : Int × List Int × Bool × Int × List Int × Bool) => f_laws_eqFrame p.1 p.2.1 p.2.2.1 p.2.2.2.1 p.2.2.2.2.1 p.2.2.2.2.2⟩
noncomputable abbrev K53 : Cons := [(61, C61)]
noncomputable abbrev L53 : List (Nat × Loops) := []
abbrev Q53 : List (Nat × List (Int × Nat) × Nat) := []
noncomputable abbrev X53 : Nat → Ctx := ctxOf tb K53 L53 Q53
theorem E53 : ∀ x, funRun fs X53 6 53 C53 x = C53.fn x := fun x => by kernel_rfl
theorem B53 : ConB Try.prog 53 C53 := ConB.make FS MIX TY (cons := K53) (L := L53) (ptrs := Q53) ⟨S61, trivial⟩ trivial trivial rfl rfl E53
theorem S53 : ConS Try.prog 53 C53 := B53.call rfl
/-! laws.FnExactFrameOk: function 13 -/
noncomputable def f_laws_FnExactFrameOk (x0 : Int) (x1 : List Int) (x2 : Bool) : Option (Bool) :=
  (f_laws_szFrame x0 x1 x2 1048576).bind fun y38 =>
  bif (decide (y38 < (0 : Int))) then
    some true
  else
    (f_laws_toFrame x0 x1 x2).bind fun y39 =>
    (f_spec_FrameOk y39.1 y39.2.1 y39.2.2).bind fun y40 =>
    (f_laws_toFrame x0 x1 x2).bind fun y41 =>
    (f_impl_FrameOk y41.1 y41.2.1 y41.2.2).bind fun y42 =>
    bif (!(y42 == y40)) then
      some false
    else
      (f_laws_toFrame x0 x1 x2).bind fun y43 =>
      (f_laws_eqFrame y41.1 y41.2.1 y41.2.2 y43.1 y43.2.1 y43.2.2).bind fun y44 =>
      bif (!y44) then
        some false
      else
        some true
noncomputable def C13 : Con := ⟨[(.B, true, [(.int .i64), (.sl R0), .bool])], [(false, [.bool])], [(.int .i64), (.sl R0), .bool], [.bool], fun (p : Int × List Int × Bool) => f_laws_FnExactFrameOk p.1 p.2.1 p.2.2⟩
noncomputable abbrev K13 : Cons := [(49, C49), (50, C50), (51, C51), (52, C52), (53, C53)]
noncomputable abbrev L13 : List (Nat × Loops) := []
abbrev Q13 : List (Nat × List (Int × Nat) × Nat) := []
noncomputable abbrev X13 : Nat → Ctx := ctxOf tb K13 L13 Q13
theorem E13 : ∀ x, funRun fs X13 6 13 C13 x = C13.fn x := fun x => by kernel_rfl
theorem B13 : ConB Try.prog 13 C13 := ConB.make FS MIX TY (cons := K13) (L := L13) (ptrs := Q13) ⟨S49, S50, S51, S52, S53, trivial⟩ trivial trivial rfl rfl E13
theorem S13 : ConS Try.prog 13 C13 := B13.call rfl
/-- What is left: the plain law. -/
def Pure : Prop := ∀ x : Tup [(.int .i64), (.sl R0), .bool], WfT [(.int .i64), (.sl R0), .bool] x → C13.fn x = some (true : Bool)
end
end Go.Abs
