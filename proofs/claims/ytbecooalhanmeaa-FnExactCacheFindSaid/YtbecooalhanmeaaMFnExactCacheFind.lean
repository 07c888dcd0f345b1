import Derived.Test.YtbecooalhanmeaaProg
import Derived.Test.YtbecooalhanmeaaAbsC
import Derived.KernelRfl
namespace Go.Abs
open Go.Proofs
set_option linter.unusedVariables false
set_option maxRecDepth 100000
noncomputable section
abbrev N : Nat := 1152921504606846976
abbrev R0 : RT := .cons (.int .i64) (.cons (.int .i64) (.cons (.int .i64) (.cons (.int .i64) (.one (.int .i64)))))
abbrev R1 : RT := .cons (.int .i64) (.one (.sl R0))
abbrev R2 : RT := .one (.int .i64)
noncomputable def tb : Tb := [(0, ⟨false, [], [], 0, 0⟩),
  (3, ⟨false, [(.int .i64)], [], 0, 8⟩),
  (4, ⟨false, [.bool], [], 0, 1⟩),
  (5, ⟨false, [(.int .u8)], [], 0, 1⟩),
  (9, ⟨false, [.str], [], 0, 16⟩),
  (22, ⟨false, [(.sl R2)], [], 3, 24⟩),
  (41, ⟨true, [(.int .i64), (.int .i64), (.int .i64), (.int .i64), (.int .i64)], [(0, 3), (1, 3), (2, 3), (3, 3), (4, 3)], 0, 40⟩),
  (43, ⟨true, [(.int .i64), (.int .i64), (.int .i64), (.int .i64), (.int .i64)], [(0, 3), (1, 3), (2, 3), (3, 3), (4, 3)], 0, 40⟩),
  (71, ⟨false, [(.sl R0)], [], 41, 24⟩),
  (73, ⟨true, [(.int .i64), (.sl R0)], [(0, 3), (1, 71)], 0, 32⟩),
  (76, ⟨false, [(.sl R0)], [], 43, 24⟩),
  (78, ⟨true, [(.int .i64), (.sl R0)], [(0, 3), (1, 76)], 0, 32⟩),
  (93, ⟨false, [], [], 0, 0⟩),
  (106, ⟨false, [(.sl R1)], [], 73, 24⟩),
  (109, ⟨false, [(.sl R1)], [], 78, 24⟩),
  (141, ⟨false, [], [], 0, 0⟩),
  (143, ⟨false, [], [], 0, 8⟩),
  (148, ⟨false, [], [], 0, 8⟩)]
noncomputable def fsL : List (Nat × Func) := [(95, Try.f95), (44, Try.f44), (63, Try.f63), (26, Try.f26), (97, Try.f97), (46, Try.f46), (65, Try.f65), (69, Try.f69), (115, Try.f115), (116, Try.f116), (76, Try.f76), (96, Try.f96), (45, Try.f45), (54, Try.f54), (64, Try.f64), (71, Try.f71), (98, Try.f98), (117, Try.f117), (118, Try.f118), (78, Try.f78), (99, Try.f99), (47, Try.f47), (55, Try.f55), (66, Try.f66), (56, Try.f56), (100, Try.f100), (48, Try.f48), (67, Try.f67), (14, Try.f14)]
noncomputable def fs : Nat → Option Func := getF fsL
theorem MIX : Try.prog.follows .mixedOrders = true := by kernel_rfl
theorem TY : tyCheck Try.prog tb = true := by kernel_rfl
theorem CAT : catCheck tb = true := by kernel_rfl
theorem FSP : FsP Try.prog fsL := ⟨Try.func95, Try.func44, Try.func63, Try.func26, Try.func97, Try.func46, Try.func65, Try.func69, Try.func115, Try.func116, Try.func76, Try.func96, Try.func45, Try.func54, Try.func64, Try.func71, Try.func98, Try.func117, Try.func118, Try.func78, Try.func99, Try.func47, Try.func55, Try.func66, Try.func56, Try.func100, Try.func48, Try.func67, Try.func14, trivial⟩
theorem FSC : (fsL.all fun p => fnChk p.2) = true := by kernel_rfl
theorem FS : FsS Try.prog fs := FsS.of FSP FSC
theorem PT118 : PtrS Try.prog 118 [(82, 1), (65, 2), (66, 3)] 4 := PtrS.make FS MIX TY (cons := []) (L := []) (ptrs := []) trivial trivial trivial rfl (fun l => by kernel_rfl)
/-! laws.szInsS: function 95 -/
noncomputable def f_laws_szInsS (x0 : List (Int × Int × Int × Int × Int)) (x1 : Int) : Option (Int) :=
  bif (decide ((IntKind.wrap .i64 (x1 - (x0.length : Int))) < (0 : Int))) then
    some (-1)
  else
    some (IntKind.wrap .i64 (x1 - (x0.length : Int)))
noncomputable def C95 : Con := ⟨[(.B, false, [(.sl R0)]), (.B, false, [(.int .i64)])], [(false, [(.int .i64)])], [(.sl R0), (.int .i64)], [(.int .i64)], fun (p : (List (Int × Int × Int × Int × Int)) × Int) => f_laws_szInsS p.1 p.2⟩
noncomputable abbrev K95 : Cons := []
noncomputable abbrev L95 : List (Nat × Loops) := []
abbrev Q95 : List (Nat × List (Int × Nat) × Nat) := []
noncomputable abbrev X95 : Nat → Ctx := ctxOf tb K95 L95 Q95
theorem E95 : ∀ x, funRun fs X95 6 95 C95 x = C95.fn x := fun x => by kernel_rfl
theorem B95 : ConB Try.prog 95 C95 := ConB.make FS MIX TY (cons := K95) (L := L95) (ptrs := Q95) trivial trivial trivial rfl rfl E95
theorem S95 : ConS Try.prog 95 C95 := B95.call rfl
/-! laws.szBlock: function 44 -/
noncomputable def f_laws_szBlock (x0 : Int) (x1 : List (Int × Int × Int × Int × Int)) (x2 : Int) : Option (Int) :=
  (f_laws_szInsS x1 x2).bind fun y1 =>
  bif (decide (y1 < (0 : Int))) then
    some (-1)
  else
    some y1
noncomputable def C44 : Con := ⟨[(.B, true, [(.int .i64), (.sl R0)]), (.B, false, [(.int .i64)])], [(false, [(.int .i64)])], [(.int .i64), (.sl R0), (.int .i64)], [(.int .i64)], fun (p : Int × (List (Int × Int × Int × Int × Int)) × Int) => f_laws_szBlock p.1 p.2.1 p.2.2⟩
noncomputable abbrev K44 : Cons := [(95, C95)]
noncomputable abbrev L44 : List (Nat × Loops) := []
abbrev Q44 : List (Nat × List (Int × Nat) × Nat) := []
noncomputable abbrev X44 : Nat → Ctx := ctxOf tb K44 L44 Q44
theorem E44 : ∀ x, funRun fs X44 6 44 C44 x = C44.fn x := fun x => by kernel_rfl
theorem B44 : ConB Try.prog 44 C44 := ConB.make FS MIX TY (cons := K44) (L := L44) (ptrs := Q44) ⟨S95, trivial⟩ trivial trivial rfl rfl E44
theorem S44 : ConS Try.prog 44 C44 := B44.call rfl
/-! laws.szBlockS: function 63 -/
noncomputable def f_laws_szBlockS.l0 : Nat → (List (Int × (List (Int × Int × Int × Int × Int)))) → Int → Int → Int → Option ((Int) ⊕ (Int × Int))
  | 0, _, _, _, _ => none
  | n + 1, p2, p3, p4, p5 =>
    bif (decide (p5 < (p2.length : Int))) then
      bif ((decide ((0 : Int) ≤ p5)) && (decide (p5 < (p2.length : Int)))) then
      (f_laws_szBlock ((p2.getD p5.toNat (0, [])).1) ((p2.getD p5.toNat (0, [])).2) p3).bind fun y6 =>
      bif (decide (y6 < (0 : Int))) then
        some (.inl (-1))
      else
        f_laws_szBlockS.l0 n p2 y6 p4 (IntKind.wrap .i64 (p5 + (1 : Int)))
      else none
    else
      some (.inr (p3, p4))
noncomputable def f_laws_szBlockS (x0 : List (Int × (List (Int × Int × Int × Int × Int)))) (x1 : Int) : Option (Int) :=
  bif (decide ((IntKind.wrap .i64 (x1 - (x0.length : Int))) < (0 : Int))) then
    some (-1)
  else
    (f_laws_szBlockS.l0 N x0 (IntKind.wrap .i64 (x1 - (x0.length : Int))) 0 0).bind fun r7 =>
    cs r7 (fun a8 =>
      some a8) (fun b9 =>
      some b9.1)
noncomputable def C63 : Con := ⟨[(.B, false, [(.sl R1)]), (.B, false, [(.int .i64)])], [(false, [(.int .i64)])], [(.sl R1), (.int .i64)], [(.int .i64)], fun (p : (List (Int × (List (Int × Int × Int × Int × Int)))) × Int) => f_laws_szBlockS p.1 p.2⟩
noncomputable def f_laws_szBlockS.l0.c : LoopCon := ⟨1000, 6, [0, 1, 4, 5], ⟨[(0, .bor none R1 []), (1, .int .i64 0), (4, .int .i64 0), (5, .int .i64 0)], [], 1000⟩, [(.sl R1), (.int .i64), (.int .i64), (.int .i64)], [⟨.ret, [4], ⟨[(4, .int .i64 0)], [], 1000⟩, [(.int .i64)]⟩, ⟨.exit 0, [1, 4], ⟨[(1, .int .i64 0), (4, .int .i64 0)], [], 1000⟩, [(.int .i64), (.int .i64)]⟩], fun (p : (List (Int × (List (Int × Int × Int × Int × Int)))) × Int × Int × Int) => f_laws_szBlockS.l0 N p.1 p.2.1 p.2.2.1 p.2.2.2⟩
noncomputable abbrev K63 : Cons := [(44, C44)]
noncomputable abbrev L63 : List (Nat × Loops) := [(63, [(5, f_laws_szBlockS.l0.c)])]
abbrev Q63 : List (Nat × List (Int × Nat) × Nat) := []
noncomputable abbrev X63 : Nat → Ctx := ctxOf tb K63 L63 Q63
theorem f_laws_szBlockS.l0.ok : ∀ n p, (fun (p : (List (Int × (List (Int × Int × Int × Int × Int)))) × Int × Int × Int) => f_laws_szBlockS.l0 n p.1 p.2.1 p.2.2.1 p.2.2.2) p = iterD (roundOf fs X63 6 63 5 false f_laws_szBlockS.l0.c) n p :=
  iter_of (l := fun n => fun (p : (List (Int × (List (Int × Int × Int × Int × Int)))) × Int × Int × Int) => f_laws_szBlockS.l0 n p.1 p.2.1 p.2.2.1 p.2.2.2) (fun _ => rfl) (fun n p => by kernel_rfl)
theorem E63 : ∀ x, funRun fs X63 6 63 C63 x = C63.fn x := fun x => by kernel_rfl
theorem B63 : ConB Try.prog 63 C63 := ConB.make FS MIX TY (cons := K63) (L := L63) (ptrs := Q63) ⟨S44, trivial⟩ trivial ⟨⟨⟨N, fun p => f_laws_szBlockS.l0.ok N p⟩, trivial⟩, trivial⟩ rfl rfl E63
theorem S63 : ConS Try.prog 63 C63 := B63.call rfl
/-! laws.toIns: function 26 -/
noncomputable def f_laws_toIns (x0 : Int) (x1 : Int) (x2 : Int) (x3 : Int) (x4 : Int) : Option (Int × Int × Int × Int × Int) :=
  some (x0, x1, x2, x3, x4)
noncomputable def C26 : Con := ⟨[(.B, true, [(.int .i64), (.int .i64), (.int .i64), (.int .i64), (.int .i64)])], [(true, [(.int .i64), (.int .i64), (.int .i64), (.int .i64), (.int .i64)])], [(.int .i64), (.int .i64), (.int .i64), (.int .i64), (.int .i64)], [(.int .i64), (.int .i64), (.int .i64), (.int .i64), (.int .i64)], fun (p : Int × Int × Int × Int × Int) => f_laws_toIns p.1 p.2.1 p.2.2.1 p.2.2.2.1 p.2.2.2.2⟩
noncomputable abbrev K26 : Cons := []
noncomputable abbrev L26 : List (Nat × Loops) := []
abbrev Q26 : List (Nat × List (Int × Nat) × Nat) := []
noncomputable abbrev X26 : Nat → Ctx := ctxOf tb K26 L26 Q26
theorem E26 : ∀ x, funRun fs X26 6 26 C26 x = C26.fn x := fun x => by kernel_rfl
theorem B26 : ConB Try.prog 26 C26 := ConB.make FS MIX TY (cons := K26) (L := L26) (ptrs := Q26) trivial trivial trivial rfl rfl E26
theorem S26 : ConS Try.prog 26 C26 := B26.call rfl
/-! laws.toInsS: function 97 -/
noncomputable def f_laws_toInsS.l0 : Nat → (List (Int × Int × Int × Int × Int)) → Int → (List (Int × Int × Int × Int × Int)) → Option ((List (Int × Int × Int × Int × Int)))
  | 0, _, _, _ => none
  | n + 1, p10, p11, p12 =>
    bif (decide (p11 < (p10.length : Int))) then
      bif ((decide ((0 : Int) ≤ p11)) && (decide (p11 < (p10.length : Int)))) then
      (f_laws_toIns ((p10.getD p11.toNat (0, 0, 0, 0, 0)).1) ((p10.getD p11.toNat (0, 0, 0, 0, 0)).2.1) ((p10.getD p11.toNat (0, 0, 0, 0, 0)).2.2.1) ((p10.getD p11.toNat (0, 0, 0, 0, 0)).2.2.2.1) ((p10.getD p11.toNat (0, 0, 0, 0, 0)).2.2.2.2)).bind fun y13 =>
      bif ((decide ((0 : Int) ≤ p11)) && (decide (p11 < (p12.length : Int)))) then
      (some ((p12.set p11.toNat (y13.1, y13.2.1, y13.2.2.1, y13.2.2.2.1, y13.2.2.2.2)) : List (Int × Int × Int × Int × Int))).bind fun z14 =>
      f_laws_toInsS.l0 n p10 (IntKind.wrap .i64 (p11 + (1 : Int))) z14
      else none
      else none
    else
      some p12
noncomputable def f_laws_toInsS (x0 : List (Int × Int × Int × Int × Int)) : Option ((List (Int × Int × Int × Int × Int))) :=
  bif (decide ((0 : Int) ≤ (x0.length : Int)) && Nat.ble (x0.length : Int).toNat 3518437208883) then
  (f_laws_toInsS.l0 N x0 0 (List.replicate (x0.length : Int).toNat (0, 0, 0, 0, 0))).bind fun r15 =>
  some r15
  else none
noncomputable def C97 : Con := ⟨[(.B, false, [(.sl R0)])], [(false, [(.sl R0)])], [(.sl R0)], [(.sl R0)], fun (p : (List (Int × Int × Int × Int × Int))) => f_laws_toInsS p⟩
noncomputable def f_laws_toInsS.l0.c : LoopCon := ⟨1000, 6, [0, 2, 3, 4], ⟨[(0, .bor none R0 []), (2, .nil (some R0)), (3, .ref 1000 [] none), (4, .int .i64 0)], [(1000, .row R0 [])], 1001⟩, [(.sl R0), (.int .i64), (.sl R0)], [⟨.exit 0, [2, 3], ⟨[(2, .nil (some R0)), (3, .ref 1000 [] none)], [(1000, .row R0 [])], 1001⟩, [(.sl R0)]⟩], fun (p : (List (Int × Int × Int × Int × Int)) × Int × (List (Int × Int × Int × Int × Int))) => f_laws_toInsS.l0 N p.1 p.2.1 p.2.2⟩
noncomputable abbrev K97 : Cons := [(26, C26)]
noncomputable abbrev L97 : List (Nat × Loops) := [(97, [(3, f_laws_toInsS.l0.c)])]
abbrev Q97 : List (Nat × List (Int × Nat) × Nat) := []
noncomputable abbrev X97 : Nat → Ctx := ctxOf tb K97 L97 Q97
theorem f_laws_toInsS.l0.ok : ∀ n p, (fun (p : (List (Int × Int × Int × Int × Int)) × Int × (List (Int × Int × Int × Int × Int))) => f_laws_toInsS.l0 n p.1 p.2.1 p.2.2) p = iterD (roundOf fs X97 6 97 3 false f_laws_toInsS.l0.c) n p :=
  iter_of (l := fun n => fun (p : (List (Int × Int × Int × Int × Int)) × Int × (List (Int × Int × Int × Int × Int))) => f_laws_toInsS.l0 n p.1 p.2.1 p.2.2) (fun _ => rfl) (fun n p => by kernel_rfl)
theorem E97 : ∀ x, funRun fs X97 6 97 C97 x = C97.fn x := fun x => by kernel_rfl
theorem B97 : ConB Try.prog 97 C97 := ConB.make FS MIX TY (cons := K97) (L := L97) (ptrs := Q97) ⟨S26, trivial⟩ trivial ⟨⟨⟨N, fun p => f_laws_toInsS.l0.ok N p⟩, trivial⟩, trivial⟩ rfl rfl E97
theorem S97 : ConS Try.prog 97 C97 := B97.call rfl
/-! laws.toBlock: function 46 -/
noncomputable def f_laws_toBlock (x0 : Int) (x1 : List (Int × Int × Int × Int × Int)) : Option (Int × (List (Int × Int × Int × Int × Int))) :=
  (f_laws_toInsS x1).bind fun y16 =>
  some (x0, y16)
noncomputable def C46 : Con := ⟨[(.B, true, [(.int .i64), (.sl R0)])], [(true, [(.int .i64), (.sl R0)])], [(.int .i64), (.sl R0)], [(.int .i64), (.sl R0)], fun (p : Int × (List (Int × Int × Int × Int × Int))) => f_laws_toBlock p.1 p.2⟩
noncomputable abbrev K46 : Cons := [(97, C97)]
noncomputable abbrev L46 : List (Nat × Loops) := []
abbrev Q46 : List (Nat × List (Int × Nat) × Nat) := []
noncomputable abbrev X46 : Nat → Ctx := ctxOf tb K46 L46 Q46
theorem E46 : ∀ x, funRun fs X46 6 46 C46 x = C46.fn x := fun x => by kernel_rfl
theorem B46 : ConB Try.prog 46 C46 := ConB.make FS MIX TY (cons := K46) (L := L46) (ptrs := Q46) ⟨S97, trivial⟩ trivial trivial rfl rfl E46
theorem S46 : ConS Try.prog 46 C46 := B46.call rfl
/-! laws.toBlockS: function 65 -/
noncomputable def f_laws_toBlockS.l0 : Nat → (List (Int × (List (Int × Int × Int × Int × Int)))) → Int → (List (Int × (List (Int × Int × Int × Int × Int)))) → Option ((List (Int × (List (Int × Int × Int × Int × Int)))))
  | 0, _, _, _ => none
  | n + 1, p17, p18, p19 =>
    bif (decide (p18 < (p17.length : Int))) then
      bif ((decide ((0 : Int) ≤ p18)) && (decide (p18 < (p17.length : Int)))) then
      (f_laws_toBlock ((p17.getD p18.toNat (0, [])).1) ((p17.getD p18.toNat (0, [])).2)).bind fun y20 =>
      bif ((decide ((0 : Int) ≤ p18)) && (decide (p18 < (p19.length : Int)))) then
      (some ((p19.set p18.toNat (y20.1, y20.2)) : List (Int × (List (Int × Int × Int × Int × Int))))).bind fun z21 =>
      f_laws_toBlockS.l0 n p17 (IntKind.wrap .i64 (p18 + (1 : Int))) z21
      else none
      else none
    else
      some p19
noncomputable def f_laws_toBlockS (x0 : List (Int × (List (Int × Int × Int × Int × Int)))) : Option ((List (Int × (List (Int × Int × Int × Int × Int))))) :=
  bif (decide ((0 : Int) ≤ (x0.length : Int)) && Nat.ble (x0.length : Int).toNat 4398046511104) then
  (f_laws_toBlockS.l0 N x0 0 (List.replicate (x0.length : Int).toNat (0, []))).bind fun r22 =>
  some r22
  else none
noncomputable def C65 : Con := ⟨[(.B, false, [(.sl R1)])], [(false, [(.sl R1)])], [(.sl R1)], [(.sl R1)], fun (p : (List (Int × (List (Int × Int × Int × Int × Int))))) => f_laws_toBlockS p⟩
noncomputable def f_laws_toBlockS.l0.c : LoopCon := ⟨1000, 6, [0, 2, 3, 4], ⟨[(0, .bor none R1 []), (2, .nil (some R1)), (3, .ref 1000 [] none), (4, .int .i64 0)], [(1000, .row R1 [])], 1001⟩, [(.sl R1), (.int .i64), (.sl R1)], [⟨.exit 0, [2, 3], ⟨[(2, .nil (some R1)), (3, .ref 1000 [] none)], [(1000, .row R1 [])], 1001⟩, [(.sl R1)]⟩], fun (p : (List (Int × (List (Int × Int × Int × Int × Int)))) × Int × (List (Int × (List (Int × Int × Int × Int × Int))))) => f_laws_toBlockS.l0 N p.1 p.2.1 p.2.2⟩
noncomputable abbrev K65 : Cons := [(46, C46)]
noncomputable abbrev L65 : List (Nat × Loops) := [(65, [(3, f_laws_toBlockS.l0.c)])]
abbrev Q65 : List (Nat × List (Int × Nat) × Nat) := []
noncomputable abbrev X65 : Nat → Ctx := ctxOf tb K65 L65 Q65
theorem f_laws_toBlockS.l0.ok : ∀ n p, (fun (p : (List (Int × (List (Int × Int × Int × Int × Int)))) × Int × (List (Int × (List (Int × Int × Int × Int × Int))))) => f_laws_toBlockS.l0 n p.1 p.2.1 p.2.2) p = iterD (roundOf fs X65 6 65 3 false f_laws_toBlockS.l0.c) n p :=
  iter_of (l := fun n => fun (p : (List (Int × (List (Int × Int × Int × Int × Int)))) × Int × (List (Int × (List (Int × Int × Int × Int × Int))))) => f_laws_toBlockS.l0 n p.1 p.2.1 p.2.2) (fun _ => rfl) (fun n p => by kernel_rfl)
theorem E65 : ∀ x, funRun fs X65 6 65 C65 x = C65.fn x := fun x => by kernel_rfl
theorem B65 : ConB Try.prog 65 C65 := ConB.make FS MIX TY (cons := K65) (L := L65) (ptrs := Q65) ⟨S46, trivial⟩ trivial ⟨⟨⟨N, fun p => f_laws_toBlockS.l0.ok N p⟩, trivial⟩, trivial⟩ rfl rfl E65
theorem S65 : ConS Try.prog 65 C65 := B65.call rfl
/-! spec.l1In: function 69 -/
noncomputable def f_spec_l1In (x0 : Int) (x1 : Int) (x2 : Int) : Option (Bool) :=
  bif (decide (x1 ≤ x0)) then
    some (decide (x0 ≤ x2))
  else
    some false
noncomputable def C69 : Con := ⟨[(.B, false, [(.int .i64)]), (.B, false, [(.int .i64)]), (.B, false, [(.int .i64)])], [(false, [.bool])], [(.int .i64), (.int .i64), (.int .i64)], [.bool], fun (p : Int × Int × Int) => f_spec_l1In p.1 p.2.1 p.2.2⟩
noncomputable abbrev K69 : Cons := []
noncomputable abbrev L69 : List (Nat × Loops) := []
abbrev Q69 : List (Nat × List (Int × Nat) × Nat) := []
noncomputable abbrev X69 : Nat → Ctx := ctxOf tb K69 L69 Q69
theorem E69 : ∀ x, funRun fs X69 6 69 C69 x = C69.fn x := fun x => by kernel_rfl
theorem B69 : ConB Try.prog 69 C69 := ConB.make FS MIX TY (cons := K69) (L := L69) (ptrs := Q69) trivial trivial trivial rfl rfl E69
theorem S69 : ConS Try.prog 69 C69 := B69.call rfl
/-! spec.l8Has: function 115 -/
noncomputable def f_spec_l8Has (x0 : Int) : Option (Int) :=
  (f_spec_l1In x0 1 10).bind fun y23 =>
  bif (!y23) then
    some 0
  else
    bif ((decide ((0 : Int) ≤ x0)) && (decide (x0 < (([0, 9, 7, 11, 11, 14, 15, 10, 8, 0, 7] : List Int).length : Int)))) then
    some (([0, 9, 7, 11, 11, 14, 15, 10, 8, 0, 7] : List Int).getD x0.toNat 0)
    else none
noncomputable def C115 : Con := ⟨[(.B, false, [(.int .i64)])], [(false, [(.int .i64)])], [(.int .i64)], [(.int .i64)], fun (p : Int) => f_spec_l8Has p⟩
noncomputable abbrev K115 : Cons := [(69, C69)]
noncomputable abbrev L115 : List (Nat × Loops) := []
abbrev Q115 : List (Nat × List (Int × Nat) × Nat) := []
noncomputable abbrev X115 : Nat → Ctx := ctxOf tb K115 L115 Q115
theorem E115 : ∀ x, funRun fs X115 6 115 C115 x = C115.fn x := fun x => by kernel_rfl
theorem B115 : ConB Try.prog 115 C115 := ConB.make FS MIX TY (cons := K115) (L := L115) (ptrs := Q115) ⟨S69, trivial⟩ trivial trivial rfl rfl E115
theorem S115 : ConS Try.prog 115 C115 := B115.call rfl
/-! spec.l8Field: function 116 -/
noncomputable def f_spec_l8Field (x0 : Int) (x1 : Int) (x2 : Bool) : Option (Bool) :=
  (f_spec_l1In x0 0 x1).bind fun y24 =>
  bif y24 then
    bif x2 then
      some true
    else
      some (decide (x0 = (0 : Int)))
  else
    some false
noncomputable def C116 : Con := ⟨[(.B, false, [(.int .i64)]), (.B, false, [(.int .i64)]), (.B, false, [.bool])], [(false, [.bool])], [(.int .i64), (.int .i64), .bool], [.bool], fun (p : Int × Int × Bool) => f_spec_l8Field p.1 p.2.1 p.2.2⟩
noncomputable abbrev K116 : Cons := [(69, C69)]
noncomputable abbrev L116 : List (Nat × Loops) := []
abbrev Q116 : List (Nat × List (Int × Nat) × Nat) := []
noncomputable abbrev X116 : Nat → Ctx := ctxOf tb K116 L116 Q116
theorem E116 : ∀ x, funRun fs X116 6 116 C116 x = C116.fn x := fun x => by kernel_rfl
theorem B116 : ConB Try.prog 116 C116 := ConB.make FS MIX TY (cons := K116) (L := L116) (ptrs := Q116) ⟨S69, trivial⟩ trivial trivial rfl rfl E116
theorem S116 : ConS Try.prog 116 C116 := B116.call rfl
/-! spec.InsOk: function 76 -/
noncomputable def f_spec_InsOk (x0 : Int) (x1 : Int) (x2 : Int) (x3 : Int) (x4 : Int) : Option (Bool) :=
  (f_spec_l8Has x0).bind fun y25 =>
  (f_spec_l1In x0 1 10).bind fun y26 =>
  bif y26 then
    (f_spec_l8Field x1 3 (!(decide ((bitI .and .i64 y25 (1 : Int)) = (0 : Int))))).bind fun y27 =>
    bif y27 then
      (f_spec_l8Field x2 3 (!(decide ((bitI .and .i64 y25 (2 : Int)) = (0 : Int))))).bind fun y28 =>
      bif y28 then
        (f_spec_l8Field x3 3 (!(decide ((bitI .and .i64 y25 (4 : Int)) = (0 : Int))))).bind fun y29 =>
        bif y29 then
          (f_spec_l8Field x4 63 (!(decide ((bitI .and .i64 y25 (8 : Int)) = (0 : Int))))).bind fun y30 =>
          some y30
        else
          some false
      else
        some false
    else
      some false
  else
    some false
noncomputable def C76 : Con := ⟨[(.B, true, [(.int .i64), (.int .i64), (.int .i64), (.int .i64), (.int .i64)])], [(false, [.bool])], [(.int .i64), (.int .i64), (.int .i64), (.int .i64), (.int .i64)], [.bool], fun (p : Int × Int × Int × Int × Int) => f_spec_InsOk p.1 p.2.1 p.2.2.1 p.2.2.2.1 p.2.2.2.2⟩
noncomputable abbrev K76 : Cons := [(69, C69), (115, C115), (116, C116)]
noncomputable abbrev L76 : List (Nat × Loops) := []
abbrev Q76 : List (Nat × List (Int × Nat) × Nat) := []
noncomputable abbrev X76 : Nat → Ctx := ctxOf tb K76 L76 Q76
theorem E76 : ∀ x, funRun fs X76 6 76 C76 x = C76.fn x := fun x => by kernel_rfl
theorem B76 : ConB Try.prog 76 C76 := ConB.make FS MIX TY (cons := K76) (L := L76) (ptrs := Q76) ⟨S69, S115, S116, trivial⟩ trivial trivial rfl rfl E76
theorem S76 : ConS Try.prog 76 C76 := B76.call rfl
/-! spec.Ends: function 96 -/
noncomputable def f_spec_Ends (x0 : Int) (x1 : Int) (x2 : Int) (x3 : Int) (x4 : Int) : Option (Bool) :=
  (f_spec_InsOk x0 x1 x2 x3 x4).bind fun y31 =>
  bif (!y31) then
    some true
  else
    bif (decide (x0 = (7 : Int))) then
      some true
    else
      bif (decide (x0 = (8 : Int))) then
        some true
      else
        some (decide (x0 = (9 : Int)))
noncomputable def C96 : Con := ⟨[(.B, true, [(.int .i64), (.int .i64), (.int .i64), (.int .i64), (.int .i64)])], [(false, [.bool])], [(.int .i64), (.int .i64), (.int .i64), (.int .i64), (.int .i64)], [.bool], fun (p : Int × Int × Int × Int × Int) => f_spec_Ends p.1 p.2.1 p.2.2.1 p.2.2.2.1 p.2.2.2.2⟩
noncomputable abbrev K96 : Cons := [(76, C76)]
noncomputable abbrev L96 : List (Nat × Loops) := []
abbrev Q96 : List (Nat × List (Int × Nat) × Nat) := []
noncomputable abbrev X96 : Nat → Ctx := ctxOf tb K96 L96 Q96
theorem E96 : ∀ x, funRun fs X96 6 96 C96 x = C96.fn x := fun x => by kernel_rfl
theorem B96 : ConB Try.prog 96 C96 := ConB.make FS MIX TY (cons := K96) (L := L96) (ptrs := Q96) ⟨S76, trivial⟩ trivial trivial rfl rfl E96
theorem S96 : ConS Try.prog 96 C96 := B96.call rfl
/-! spec.BlockOk: function 45 -/
noncomputable def f_spec_BlockOk.l0 : Nat → Bool → Int → Int → (List (Int × Int × Int × Int × Int)) → Option ((Bool) ⊕ (Bool))
  | 0, _, _, _, _ => none
  | n + 1, p34, p35, p36, p37 =>
    bif (decide (p35 < (p37.length : Int))) then
      bif ((decide ((0 : Int) ≤ p35)) && (decide (p35 < (p37.length : Int)))) then
      (f_spec_InsOk ((p37.getD p35.toNat (0, 0, 0, 0, 0)).1) ((p37.getD p35.toNat (0, 0, 0, 0, 0)).2.1) ((p37.getD p35.toNat (0, 0, 0, 0, 0)).2.2.1) ((p37.getD p35.toNat (0, 0, 0, 0, 0)).2.2.2.1) ((p37.getD p35.toNat (0, 0, 0, 0, 0)).2.2.2.2)).bind fun y38 =>
      bif (!y38) then
        bif (!((decide (((p37.getD p35.toNat (0, 0, 0, 0, 0)).1) = (0 : Int))) && ((decide (((p37.getD p35.toNat (0, 0, 0, 0, 0)).2.1) = (0 : Int))) && ((decide (((p37.getD p35.toNat (0, 0, 0, 0, 0)).2.2.1) = (0 : Int))) && ((decide (((p37.getD p35.toNat (0, 0, 0, 0, 0)).2.2.2.1) = (0 : Int))) && (decide (((p37.getD p35.toNat (0, 0, 0, 0, 0)).2.2.2.2) = (0 : Int)))))))) then
          some (.inl false)
        else
          bif (decide (p35 < (IntKind.wrap .i64 ((p37.length : Int) - (1 : Int))))) then
            (f_spec_Ends ((p37.getD p35.toNat (0, 0, 0, 0, 0)).1) ((p37.getD p35.toNat (0, 0, 0, 0, 0)).2.1) ((p37.getD p35.toNat (0, 0, 0, 0, 0)).2.2.1) ((p37.getD p35.toNat (0, 0, 0, 0, 0)).2.2.2.1) ((p37.getD p35.toNat (0, 0, 0, 0, 0)).2.2.2.2)).bind fun y39 =>
            bif y39 then
              some (.inl false)
            else
              f_spec_BlockOk.l0 n p34 (IntKind.wrap .i64 (p35 + (1 : Int))) p36 p37
          else
            f_spec_BlockOk.l0 n p34 (IntKind.wrap .i64 (p35 + (1 : Int))) p36 p37
      else
        bif (decide (p35 < (IntKind.wrap .i64 ((p37.length : Int) - (1 : Int))))) then
          (f_spec_Ends ((p37.getD p35.toNat (0, 0, 0, 0, 0)).1) ((p37.getD p35.toNat (0, 0, 0, 0, 0)).2.1) ((p37.getD p35.toNat (0, 0, 0, 0, 0)).2.2.1) ((p37.getD p35.toNat (0, 0, 0, 0, 0)).2.2.2.1) ((p37.getD p35.toNat (0, 0, 0, 0, 0)).2.2.2.2)).bind fun y40 =>
          bif y40 then
            some (.inl false)
          else
            f_spec_BlockOk.l0 n p34 (IntKind.wrap .i64 (p35 + (1 : Int))) p36 p37
        else
          f_spec_BlockOk.l0 n p34 (IntKind.wrap .i64 (p35 + (1 : Int))) p36 p37
      else none
    else
      some (.inr p34)
noncomputable def f_spec_BlockOk (x0 : Int) (x1 : List (Int × Int × Int × Int × Int)) : Option (Bool) :=
  (f_spec_l1In x0 0 23).bind fun y32 =>
  bif (!y32) then
    some false
  else
    (f_spec_l1In (x1.length : Int) 1 (IntKind.wrap .i64 ((4 : Int) - (Int.tmod x0 (4 : Int))))).bind fun y33 =>
    bif (!y33) then
      some false
    else
      (f_spec_BlockOk.l0 N false 0 x0 x1).bind fun r41 =>
      cs r41 (fun a42 =>
        some a42) (fun b43 =>
        some true)
noncomputable def C45 : Con := ⟨[(.B, true, [(.int .i64), (.sl R0)])], [(false, [.bool])], [(.int .i64), (.sl R0)], [.bool], fun (p : Int × (List (Int × Int × Int × Int × Int))) => f_spec_BlockOk p.1 p.2⟩
noncomputable def f_spec_BlockOk.l0.c : LoopCon := ⟨1000, 6, [1, 2, 3], ⟨[(1, .ptr 1000 0), (2, .bool false), (3, .int .i64 0)], [(1000, .box [.int .i64 0, .bor none R0 []])], 1001⟩, [.bool, (.int .i64), (.int .i64), (.sl R0)], [⟨.ret, [2], ⟨[(2, .bool false)], [], 1000⟩, [.bool]⟩, ⟨.exit 0, [2], ⟨[(2, .bool false)], [], 1000⟩, [.bool]⟩], fun (p : Bool × Int × Int × (List (Int × Int × Int × Int × Int))) => f_spec_BlockOk.l0 N p.1 p.2.1 p.2.2.1 p.2.2.2⟩
noncomputable abbrev K45 : Cons := [(69, C69), (76, C76), (96, C96)]
noncomputable abbrev L45 : List (Nat × Loops) := [(45, [(4, f_spec_BlockOk.l0.c)])]
abbrev Q45 : List (Nat × List (Int × Nat) × Nat) := []
noncomputable abbrev X45 : Nat → Ctx := ctxOf tb K45 L45 Q45
theorem f_spec_BlockOk.l0.ok : ∀ n p, (fun (p : Bool × Int × Int × (List (Int × Int × Int × Int × Int))) => f_spec_BlockOk.l0 n p.1 p.2.1 p.2.2.1 p.2.2.2) p = iterD (roundOf fs X45 6 45 4 false f_spec_BlockOk.l0.c) n p :=
  iter_of (l := fun n => fun (p : Bool × Int × Int × (List (Int × Int × Int × Int × Int))) => f_spec_BlockOk.l0 n p.1 p.2.1 p.2.2.1 p.2.2.2) (fun _ => rfl) (fun n p => by kernel_rfl)
theorem E45 : ∀ x, funRun fs X45 6 45 C45 x = C45.fn x := fun x => by kernel_rfl
theorem B45 : ConB Try.prog 45 C45 := ConB.make FS MIX TY (cons := K45) (L := L45) (ptrs := Q45) ⟨S69, S76, S96, trivial⟩ trivial ⟨⟨⟨N, fun p => f_spec_BlockOk.l0.ok N p⟩, trivial⟩, trivial⟩ rfl rfl E45
theorem S45 : ConS Try.prog 45 C45 := B45.call rfl
/-! spec.At: function 54 -/
noncomputable def f_spec_At (x0 : Int) (x1 : List (Int × Int × Int × Int × Int)) (x2 : Int) : Option (Int × Int × Int × Int × Int × Bool) :=
  (f_spec_BlockOk x0 x1).bind fun y44 =>
  bif (!y44) then
    some (0, 0, 0, 0, 0, false)
  else
    bif (decide (x2 < x0)) then
      some (0, 0, 0, 0, 0, false)
    else
      bif (decide ((IntKind.wrap .i64 (x0 + (x1.length : Int))) ≤ x2)) then
        some (0, 0, 0, 0, 0, false)
      else
        bif ((decide ((0 : Int) ≤ (IntKind.wrap .i64 (x2 - x0)))) && (decide ((IntKind.wrap .i64 (x2 - x0)) < (x1.length : Int)))) then
        some ((x1.getD (IntKind.wrap .i64 (x2 - x0)).toNat (0, 0, 0, 0, 0)).1, (x1.getD (IntKind.wrap .i64 (x2 - x0)).toNat (0, 0, 0, 0, 0)).2.1, (x1.getD (IntKind.wrap .i64 (x2 - x0)).toNat (0, 0, 0, 0, 0)).2.2.1, (x1.getD (IntKind.wrap .i64 (x2 - x0)).toNat (0, 0, 0, 0, 0)).2.2.2.1, (x1.getD (IntKind.wrap .i64 (x2 - x0)).toNat (0, 0, 0, 0, 0)).2.2.2.2, true)
        else none
noncomputable def C54 : Con := ⟨[(.B, true, [(.int .i64), (.sl R0)]), (.B, false, [(.int .i64)])], [(true, [(.int .i64), (.int .i64), (.int .i64), (.int .i64), (.int .i64)]), (false, [.bool])], [(.int .i64), (.sl R0), (.int .i64)], [(.int .i64), (.int .i64), (.int .i64), (.int .i64), (.int .i64), .bool], fun (p : Int × (List (Int × Int × Int × Int × Int)) × Int) => f_spec_At p.1 p.2.1 p.2.2⟩
noncomputable abbrev K54 : Cons := [(45, C45)]
noncomputable abbrev L54 : List (Nat × Loops) := []
abbrev Q54 : List (Nat × List (Int × Nat) × Nat) := []
noncomputable abbrev X54 : Nat → Ctx := ctxOf tb K54 L54 Q54
theorem E54 : ∀ x, funRun fs X54 6 54 C54 x = C54.fn x := fun x => by kernel_rfl
theorem B54 : ConB Try.prog 54 C54 := ConB.make FS MIX TY (cons := K54) (L := L54) (ptrs := Q54) ⟨S45, trivial⟩ trivial trivial rfl rfl E54
theorem S54 : ConS Try.prog 54 C54 := B54.call rfl
/-! spec.CacheFind: function 64 -/
noncomputable def f_spec_CacheFind.l0 : Nat → (List (Int × (List (Int × Int × Int × Int × Int)))) → Int → Bool → Int → Int → Int → Int → Int → Int → Option ((Bool × Int × Int × Int × Int × Int) ⊕ (Bool × Int × Int × Int × Int × Int))
  | 0, _, _, _, _, _, _, _, _, _ => none
  | n + 1, p45, p46, p47, p48, p49, p50, p51, p52, p53 =>
    bif (decide (p48 < (p45.length : Int))) then
      bif ((decide ((0 : Int) ≤ p48)) && (decide (p48 < (p45.length : Int)))) then
      (f_spec_At ((p45.getD p48.toNat (0, [])).1) ((p45.getD p48.toNat (0, [])).2) p46).bind fun y54 =>
      bif y54.2.2.2.2.2 then
        some (.inl (true, y54.1, y54.2.1, y54.2.2.1, y54.2.2.2.1, y54.2.2.2.2.1))
      else
        f_spec_CacheFind.l0 n p45 p46 p47 (IntKind.wrap .i64 (p48 + (1 : Int))) p49 p50 p51 p52 p53
      else none
    else
      some (.inr (p47, p49, p50, p51, p52, p53))
noncomputable def f_spec_CacheFind (x0 : List (Int × (List (Int × Int × Int × Int × Int)))) (x1 : Int) : Option (Int × Int × Int × Int × Int × Bool) :=
  (f_spec_CacheFind.l0 N x0 x1 false 0 0 0 0 0 0).bind fun r55 =>
  cs r55 (fun a56 =>
    some (a56.2.1, a56.2.2.1, a56.2.2.2.1, a56.2.2.2.2.1, a56.2.2.2.2.2, a56.1)) (fun b57 =>
    some (0, 0, 0, 0, 0, false))
noncomputable def C64 : Con := ⟨[(.B, false, [(.sl R1)]), (.B, false, [(.int .i64)])], [(true, [(.int .i64), (.int .i64), (.int .i64), (.int .i64), (.int .i64)]), (false, [.bool])], [(.sl R1), (.int .i64)], [(.int .i64), (.int .i64), (.int .i64), (.int .i64), (.int .i64), .bool], fun (p : (List (Int × (List (Int × Int × Int × Int × Int)))) × Int) => f_spec_CacheFind p.1 p.2⟩
noncomputable def f_spec_CacheFind.l0.c : LoopCon := ⟨1000, 6, [0, 1, 4, 5, 6], ⟨[(0, .bor none R1 []), (1, .int .i64 0), (4, .ptr 1000 0), (5, .bool false), (6, .int .i64 0)], [(1000, .box [.int .i64 0, .int .i64 0, .int .i64 0, .int .i64 0, .int .i64 0])], 1001⟩, [(.sl R1), (.int .i64), .bool, (.int .i64), (.int .i64), (.int .i64), (.int .i64), (.int .i64), (.int .i64)], [⟨.ret, [4, 5], ⟨[(4, .ptr 1000 0), (5, .bool false)], [(1000, .box [.int .i64 0, .int .i64 0, .int .i64 0, .int .i64 0, .int .i64 0])], 1001⟩, [.bool, (.int .i64), (.int .i64), (.int .i64), (.int .i64), (.int .i64)]⟩, ⟨.exit 0, [4, 5], ⟨[(4, .ptr 1000 0), (5, .bool false)], [(1000, .box [.int .i64 0, .int .i64 0, .int .i64 0, .int .i64 0, .int .i64 0])], 1001⟩, [.bool, (.int .i64), (.int .i64), (.int .i64), (.int .i64), (.int .i64)]⟩], fun (p : (List (Int × (List (Int × Int × Int × Int × Int)))) × Int × Bool × Int × Int × Int × Int × Int × Int) => f_spec_CacheFind.l0 N p.1 p.2.1 p.2.2.1 p.2.2.2.1 p.2.2.2.2.1 p.2.2.2.2.2.1 p.2.2.2.2.2.2.1 p.2.2.2.2.2.2.2.1 p.2.2.2.2.2.2.2.2⟩
noncomputable abbrev K64 : Cons := [(54, C54)]
noncomputable abbrev L64 : List (Nat × Loops) := [(64, [(2, f_spec_CacheFind.l0.c)])]
abbrev Q64 : List (Nat × List (Int × Nat) × Nat) := []
noncomputable abbrev X64 : Nat → Ctx := ctxOf tb K64 L64 Q64
theorem f_spec_CacheFind.l0.ok : ∀ n p, (fun (p : (List (Int × (List (Int × Int × Int × Int × Int)))) × Int × Bool × Int × Int × Int × Int × Int × Int) => f_spec_CacheFind.l0 n p.1 p.2.1 p.2.2.1 p.2.2.2.1 p.2.2.2.2.1 p.2.2.2.2.2.1 p.2.2.2.2.2.2.1 p.2.2.2.2.2.2.2.1 p.2.2.2.2.2.2.2.2) p = iterD (roundOf fs X64 6 64 2 false f_spec_CacheFind.l0.c) n p :=
  iter_of (l := fun n => fun (p : (List (Int × (List (Int × Int × Int × Int × Int)))) × Int × Bool × Int × Int × Int × Int × Int × Int) => f_spec_CacheFind.l0 n p.1 p.2.1 p.2.2.1 p.2.2.2.1 p.2.2.2.2.1 p.2.2.2.2.2.1 p.2.2.2.2.2.2.1 p.2.2.2.2.2.2.2.1 p.2.2.2.2.2.2.2.2) (fun _ => rfl) (fun n p => by kernel_rfl)
theorem E64 : ∀ x, funRun fs X64 6 64 C64 x = C64.fn x := fun x => by kernel_rfl
theorem B64 : ConB Try.prog 64 C64 := ConB.make FS MIX TY (cons := K64) (L := L64) (ptrs := Q64) ⟨S54, trivial⟩ trivial ⟨⟨⟨N, fun p => f_spec_CacheFind.l0.ok N p⟩, trivial⟩, trivial⟩ rfl rfl E64
theorem S64 : ConS Try.prog 64 C64 := B64.call rfl
/-! impl.from: function 71 -/
noncomputable def f_impl_from (x0 : Int) (x1 : Int) (x2 : Int) : Option (Bool) :=
  bif (decide (x1 ≤ x0)) then
    some (decide (x0 ≤ x2))
  else
    some false
noncomputable def C71 : Con := ⟨[(.B, false, [(.int .i64)]), (.B, false, [(.int .i64)]), (.B, false, [(.int .i64)])], [(false, [.bool])], [(.int .i64), (.int .i64), (.int .i64)], [.bool], fun (p : Int × Int × Int) => f_impl_from p.1 p.2.1 p.2.2⟩
noncomputable abbrev K71 : Cons := []
noncomputable abbrev L71 : List (Nat × Loops) := []
abbrev Q71 : List (Nat × List (Int × Nat) × Nat) := []
noncomputable abbrev X71 : Nat → Ctx := ctxOf tb K71 L71 Q71
theorem E71 : ∀ x, funRun fs X71 6 71 C71 x = C71.fn x := fun x => by kernel_rfl
theorem B71 : ConB Try.prog 71 C71 := ConB.make FS MIX TY (cons := K71) (L := L71) (ptrs := Q71) trivial trivial trivial rfl rfl E71
theorem S71 : ConS Try.prog 71 C71 := B71.call rfl
/-! impl.isCell: function 98 -/
noncomputable def f_impl_isCell (x0 : Int) : Option (Bool) :=
  (f_impl_from x0 0 23).bind fun y58 =>
  some y58
noncomputable def C98 : Con := ⟨[(.B, false, [(.int .i64)])], [(false, [.bool])], [(.int .i64)], [.bool], fun (p : Int) => f_impl_isCell p⟩
noncomputable abbrev K98 : Cons := [(71, C71)]
noncomputable abbrev L98 : List (Nat × Loops) := []
abbrev Q98 : List (Nat × List (Int × Nat) × Nat) := []
noncomputable abbrev X98 : Nat → Ctx := ctxOf tb K98 L98 Q98
theorem E98 : ∀ x, funRun fs X98 6 98 C98 x = C98.fn x := fun x => by kernel_rfl
theorem B98 : ConB Try.prog 98 C98 := ConB.make FS MIX TY (cons := K98) (L := L98) (ptrs := Q98) ⟨S71, trivial⟩ trivial trivial rfl rfl E98
theorem S98 : ConS Try.prog 98 C98 := B98.call rfl
/-! impl.form: function 117 -/
noncomputable def f_impl_form (x0 : Int) : Option (ByteArray × Bool) :=
  bif (decide (x0 = (1 : Int))) then
    some ((⟨#[82, 78]⟩ : ByteArray), true)
  else
    bif (decide (x0 = (2 : Int))) then
      some ((⟨#[82, 65, 66]⟩ : ByteArray), true)
    else
      bif (decide (x0 = (10 : Int))) then
        some ((⟨#[82, 65, 66]⟩ : ByteArray), true)
      else
        bif (decide (x0 = (3 : Int))) then
          some ((⟨#[82, 65, 78]⟩ : ByteArray), true)
        else
          bif (decide (x0 = (4 : Int))) then
            some ((⟨#[82, 65, 78]⟩ : ByteArray), true)
          else
            bif (decide (x0 = (5 : Int))) then
              some ((⟨#[65, 66, 78]⟩ : ByteArray), true)
            else
              bif (decide (x0 = (6 : Int))) then
                some ((⟨#[82, 65, 66, 78]⟩ : ByteArray), true)
              else
                bif (decide (x0 = (7 : Int))) then
                  some ((⟨#[65, 78]⟩ : ByteArray), true)
                else
                  bif (decide (x0 = (8 : Int))) then
                    some ((⟨#[78]⟩ : ByteArray), true)
                  else
                    bif (decide (x0 = (9 : Int))) then
                      some ((⟨#[]⟩ : ByteArray), true)
                    else
                      some ((⟨#[]⟩ : ByteArray), false)
noncomputable def C117 : Con := ⟨[(.B, false, [(.int .i64)])], [(false, [.str]), (false, [.bool])], [(.int .i64)], [.str, .bool], fun (p : Int) => f_impl_form p⟩
noncomputable abbrev K117 : Cons := []
noncomputable abbrev L117 : List (Nat × Loops) := []
abbrev Q117 : List (Nat × List (Int × Nat) × Nat) := []
noncomputable abbrev X117 : Nat → Ctx := ctxOf tb K117 L117 Q117
theorem E117 : ∀ x, funRun fs X117 6 117 C117 x = C117.fn x := fun x => by kernel_rfl
theorem B117 : ConB Try.prog 117 C117 := ConB.make FS MIX TY (cons := K117) (L := L117) (ptrs := Q117) trivial trivial trivial rfl rfl E117
theorem S117 : ConS Try.prog 117 C117 := B117.call rfl
/-! impl.InsOk: function 78 -/
noncomputable def f_impl_InsOk.l0 : Nat → Bool → ByteArray → Bool → Int → Int → Int → Int → Int → Int → Int → Int → Int → Int → Int → Int → Option (Bool × Bool × Int × Int × Int × Int × Int × Int × Int × Int × Int × Int)
  | 0, _, _, _, _, _, _, _, _, _, _, _, _, _, _, _ => none
  | n + 1, p60, p61, p62, p63, p64, p65, p66, p67, p68, p69, p70, p71, p72, p73, p74 =>
    bif (decide (p64 < p63)) then
      bif ((decide ((0 : Int) ≤ p64)) && (decide (p64 < (p61.size : Int)))) then
      bif (decide (((p61.data.getD p64.toNat 0).toNat : Int) = (82 : Int))) then
        bif ((decide ((0 : Int) ≤ p64)) && (decide (p64 < (p61.size : Int)))) then
        bif (decide (((p61.data.getD p64.toNat 0).toNat : Int) = (82 : Int))) then
          f_impl_InsOk.l0 n p60 p61 p62 p63 (IntKind.wrap .i64 (p64 + (1 : Int))) p65 p66 p67 p68 p69 p70 p66 p72 p73 p74
        else
          bif (decide (((p61.data.getD p64.toNat 0).toNat : Int) = (65 : Int))) then
            f_impl_InsOk.l0 n p60 p61 p62 p63 (IntKind.wrap .i64 (p64 + (1 : Int))) p65 p66 p67 p68 p69 p70 p67 p72 p73 p74
          else
            bif (decide (((p61.data.getD p64.toNat 0).toNat : Int) = (66 : Int))) then
              f_impl_InsOk.l0 n p60 p61 p62 p63 (IntKind.wrap .i64 (p64 + (1 : Int))) p65 p66 p67 p68 p69 p70 p68 p72 p73 p74
            else
              f_impl_InsOk.l0 n p60 p61 p62 p63 (IntKind.wrap .i64 (p64 + (1 : Int))) p65 p66 p67 p68 p69 p70 p69 p72 p73 p74
        else none
      else
        bif (decide (((p61.data.getD p64.toNat 0).toNat : Int) = (65 : Int))) then
          bif ((decide ((0 : Int) ≤ p64)) && (decide (p64 < (p61.size : Int)))) then
          bif (decide (((p61.data.getD p64.toNat 0).toNat : Int) = (82 : Int))) then
            f_impl_InsOk.l0 n p60 p61 p62 p63 (IntKind.wrap .i64 (p64 + (1 : Int))) p65 p66 p67 p68 p69 p70 p71 p66 p73 p74
          else
            bif (decide (((p61.data.getD p64.toNat 0).toNat : Int) = (65 : Int))) then
              f_impl_InsOk.l0 n p60 p61 p62 p63 (IntKind.wrap .i64 (p64 + (1 : Int))) p65 p66 p67 p68 p69 p70 p71 p67 p73 p74
            else
              bif (decide (((p61.data.getD p64.toNat 0).toNat : Int) = (66 : Int))) then
                f_impl_InsOk.l0 n p60 p61 p62 p63 (IntKind.wrap .i64 (p64 + (1 : Int))) p65 p66 p67 p68 p69 p70 p71 p68 p73 p74
              else
                f_impl_InsOk.l0 n p60 p61 p62 p63 (IntKind.wrap .i64 (p64 + (1 : Int))) p65 p66 p67 p68 p69 p70 p71 p69 p73 p74
          else none
        else
          bif (decide (((p61.data.getD p64.toNat 0).toNat : Int) = (66 : Int))) then
            bif ((decide ((0 : Int) ≤ p64)) && (decide (p64 < (p61.size : Int)))) then
            bif (decide (((p61.data.getD p64.toNat 0).toNat : Int) = (82 : Int))) then
              f_impl_InsOk.l0 n p60 p61 p62 p63 (IntKind.wrap .i64 (p64 + (1 : Int))) p65 p66 p67 p68 p69 p70 p71 p72 p66 p74
            else
              bif (decide (((p61.data.getD p64.toNat 0).toNat : Int) = (65 : Int))) then
                f_impl_InsOk.l0 n p60 p61 p62 p63 (IntKind.wrap .i64 (p64 + (1 : Int))) p65 p66 p67 p68 p69 p70 p71 p72 p67 p74
              else
                bif (decide (((p61.data.getD p64.toNat 0).toNat : Int) = (66 : Int))) then
                  f_impl_InsOk.l0 n p60 p61 p62 p63 (IntKind.wrap .i64 (p64 + (1 : Int))) p65 p66 p67 p68 p69 p70 p71 p72 p68 p74
                else
                  f_impl_InsOk.l0 n p60 p61 p62 p63 (IntKind.wrap .i64 (p64 + (1 : Int))) p65 p66 p67 p68 p69 p70 p71 p72 p69 p74
            else none
          else
            bif ((decide ((0 : Int) ≤ p64)) && (decide (p64 < (p61.size : Int)))) then
            bif (decide (((p61.data.getD p64.toNat 0).toNat : Int) = (82 : Int))) then
              f_impl_InsOk.l0 n p60 p61 p62 p63 (IntKind.wrap .i64 (p64 + (1 : Int))) p65 p66 p67 p68 p69 p70 p71 p72 p73 p66
            else
              bif (decide (((p61.data.getD p64.toNat 0).toNat : Int) = (65 : Int))) then
                f_impl_InsOk.l0 n p60 p61 p62 p63 (IntKind.wrap .i64 (p64 + (1 : Int))) p65 p66 p67 p68 p69 p70 p71 p72 p73 p67
              else
                bif (decide (((p61.data.getD p64.toNat 0).toNat : Int) = (66 : Int))) then
                  f_impl_InsOk.l0 n p60 p61 p62 p63 (IntKind.wrap .i64 (p64 + (1 : Int))) p65 p66 p67 p68 p69 p70 p71 p72 p73 p68
                else
                  f_impl_InsOk.l0 n p60 p61 p62 p63 (IntKind.wrap .i64 (p64 + (1 : Int))) p65 p66 p67 p68 p69 p70 p71 p72 p73 p69
            else none
      else none
    else
      some (p60, p62, p65, p66, p67, p68, p69, p70, p71, p72, p73, p74)
noncomputable def f_impl_InsOk (x0 : Int) (x1 : Int) (x2 : Int) (x3 : Int) (x4 : Int) : Option (Bool) :=
  (f_impl_form x0).bind fun y59 =>
  (f_impl_InsOk.l0 N false y59.1 y59.2 (y59.1.size : Int) 0 x0 x1 x2 x3 x4 x0 0 0 0 0).bind fun r75 =>
  bif r75.2.1 then
    bif ((decide (r75.2.2.2.2.2.2.2.1 = r75.2.2.1)) && ((decide (r75.2.2.2.2.2.2.2.2.1 = r75.2.2.2.1)) && ((decide (r75.2.2.2.2.2.2.2.2.2.1 = r75.2.2.2.2.1)) && ((decide (r75.2.2.2.2.2.2.2.2.2.2.1 = r75.2.2.2.2.2.1)) && (decide (r75.2.2.2.2.2.2.2.2.2.2.2 = r75.2.2.2.2.2.2.1)))))) then
      (f_impl_from r75.2.2.2.1 0 3).bind fun y76 =>
      bif y76 then
        (f_impl_from r75.2.2.2.2.1 0 3).bind fun y77 =>
        bif y77 then
          (f_impl_from r75.2.2.2.2.2.1 0 3).bind fun y78 =>
          bif y78 then
            (f_impl_from r75.2.2.2.2.2.2.1 0 63).bind fun y79 =>
            some y79
          else
            some false
        else
          some false
      else
        some false
    else
      some false
  else
    some false
noncomputable def C78 : Con := ⟨[(.B, true, [(.int .i64), (.int .i64), (.int .i64), (.int .i64), (.int .i64)])], [(false, [.bool])], [(.int .i64), (.int .i64), (.int .i64), (.int .i64), (.int .i64)], [.bool], fun (p : Int × Int × Int × Int × Int) => f_impl_InsOk p.1 p.2.1 p.2.2.1 p.2.2.2.1 p.2.2.2.2⟩
noncomputable def f_impl_InsOk.l0.c : LoopCon := ⟨1000, 6, [1, 2, 3, 4, 5, 17, 18], ⟨[(1, .ptr 1000 0), (2, .bool false), (3, .str ⟨#[]⟩), (4, .bool false), (5, .ptr 1001 0), (17, .int .i64 0), (18, .int .i64 0)], [(1000, .box [.int .i64 0, .int .i64 0, .int .i64 0, .int .i64 0, .int .i64 0]), (1001, .box [.int .i64 0, .int .i64 0, .int .i64 0, .int .i64 0, .int .i64 0])], 1002⟩, [.bool, .str, .bool, (.int .i64), (.int .i64), (.int .i64), (.int .i64), (.int .i64), (.int .i64), (.int .i64), (.int .i64), (.int .i64), (.int .i64), (.int .i64), (.int .i64)], [⟨.exit 0, [1, 2, 4, 5], ⟨[(1, .ptr 1000 0), (2, .bool false), (4, .bool false), (5, .ptr 1001 0)], [(1000, .box [.int .i64 0, .int .i64 0, .int .i64 0, .int .i64 0, .int .i64 0]), (1001, .box [.int .i64 0, .int .i64 0, .int .i64 0, .int .i64 0, .int .i64 0])], 1002⟩, [.bool, .bool, (.int .i64), (.int .i64), (.int .i64), (.int .i64), (.int .i64), (.int .i64), (.int .i64), (.int .i64), (.int .i64), (.int .i64)]⟩], fun (p : Bool × ByteArray × Bool × Int × Int × Int × Int × Int × Int × Int × Int × Int × Int × Int × Int) => f_impl_InsOk.l0 N p.1 p.2.1 p.2.2.1 p.2.2.2.1 p.2.2.2.2.1 p.2.2.2.2.2.1 p.2.2.2.2.2.2.1 p.2.2.2.2.2.2.2.1 p.2.2.2.2.2.2.2.2.1 p.2.2.2.2.2.2.2.2.2.1 p.2.2.2.2.2.2.2.2.2.2.1 p.2.2.2.2.2.2.2.2.2.2.2.1 p.2.2.2.2.2.2.2.2.2.2.2.2.1 p.2.2.2.2.2.2.2.2.2.2.2.2.2.1 p.2.2.2.2.2.2.2.2.2.2.2.2.2.2⟩
noncomputable abbrev K78 : Cons := [(71, C71), (117, C117)]
noncomputable abbrev L78 : List (Nat × Loops) := [(78, [(4, f_impl_InsOk.l0.c)])]
abbrev Q78 : List (Nat × List (Int × Nat) × Nat) := [(118, [(82, 1), (65, 2), (66, 3)], 4)]
noncomputable abbrev X78 : Nat → Ctx := ctxOf tb K78 L78 Q78
theorem f_impl_InsOk.l0.ok : ∀ n p, (fun (p : Bool × ByteArray × Bool × Int × Int × Int × Int × Int × Int × Int × Int × Int × Int × Int × Int) => f_impl_InsOk.l0 n p.1 p.2.1 p.2.2.1 p.2.2.2.1 p.2.2.2.2.1 p.2.2.2.2.2.1 p.2.2.2.2.2.2.1 p.2.2.2.2.2.2.2.1 p.2.2.2.2.2.2.2.2.1 p.2.2.2.2.2.2.2.2.2.1 p.2.2.2.2.2.2.2.2.2.2.1 p.2.2.2.2.2.2.2.2.2.2.2.1 p.2.2.2.2.2.2.2.2.2.2.2.2.1 p.2.2.2.2.2.2.2.2.2.2.2.2.2.1 p.2.2.2.2.2.2.2.2.2.2.2.2.2.2) p = iterD (roundOf fs X78 6 78 4 false f_impl_InsOk.l0.c) n p :=
  iter_of (l := fun n => fun (p : Bool × ByteArray × Bool × Int × Int × Int × Int × Int × Int × Int × Int × Int × Int × Int × Int) => f_impl_InsOk.l0 n p.1 p.2.1 p.2.2.1 p.2.2.2.1 p.2.2.2.2.1 p.2.2.2.2.2.1 p.2.2.2.2.2.2.1 p.2.2.2.2.2.2.2.1 p.2.2.2.2.2.2.2.2.1 p.2.2.2.2.2.2.2.2.2.1 p.2.2.2.2.2.2.2.2.2.2.1 p.2.2.2.2.2.2.2.2.2.2.2.1 p.2.2.2.2.2.2.2.2.2.2.2.2.1 p.2.2.2.2.2.2.2.2.2.2.2.2.2.1 p.2.2.2.2.2.2.2.2.2.2.2.2.2.2) (fun _ => rfl) (fun n p => by kernel_rfl)
theorem E78 : ∀ x, funRun fs X78 6 78 C78 x = C78.fn x := fun x => by kernel_rfl
theorem B78 : ConB Try.prog 78 C78 := ConB.make FS MIX TY (cons := K78) (L := L78) (ptrs := Q78) ⟨S71, S117, trivial⟩ ⟨PT118, trivial⟩ ⟨⟨⟨N, fun p => f_impl_InsOk.l0.ok N p⟩, trivial⟩, trivial⟩ rfl rfl E78
theorem S78 : ConS Try.prog 78 C78 := B78.call rfl
/-! impl.Ends: function 99 -/
noncomputable def f_impl_Ends (x0 : Int) (x1 : Int) (x2 : Int) (x3 : Int) (x4 : Int) : Option (Bool) :=
  (f_impl_InsOk x0 x1 x2 x3 x4).bind fun y80 =>
  bif (!y80) then
    some true
  else
    bif (decide (x0 = (7 : Int))) then
      some true
    else
      bif (decide (x0 = (8 : Int))) then
        some true
      else
        some (decide (x0 = (9 : Int)))
noncomputable def C99 : Con := ⟨[(.B, true, [(.int .i64), (.int .i64), (.int .i64), (.int .i64), (.int .i64)])], [(false, [.bool])], [(.int .i64), (.int .i64), (.int .i64), (.int .i64), (.int .i64)], [.bool], fun (p : Int × Int × Int × Int × Int) => f_impl_Ends p.1 p.2.1 p.2.2.1 p.2.2.2.1 p.2.2.2.2⟩
noncomputable abbrev K99 : Cons := [(78, C78)]
noncomputable abbrev L99 : List (Nat × Loops) := []
abbrev Q99 : List (Nat × List (Int × Nat) × Nat) := []
noncomputable abbrev X99 : Nat → Ctx := ctxOf tb K99 L99 Q99
theorem E99 : ∀ x, funRun fs X99 6 99 C99 x = C99.fn x := fun x => by kernel_rfl
theorem B99 : ConB Try.prog 99 C99 := ConB.make FS MIX TY (cons := K99) (L := L99) (ptrs := Q99) ⟨S78, trivial⟩ trivial trivial rfl rfl E99
theorem S99 : ConS Try.prog 99 C99 := B99.call rfl
/-! impl.BlockOk: function 47 -/
noncomputable def f_impl_BlockOk.l0 : Nat → Bool → (List (Int × Int × Int × Int × Int)) → Int → Int → Int → (List (Int × Int × Int × Int × Int)) → Option ((Bool) ⊕ (Bool))
  | 0, _, _, _, _, _, _ => none
  | n + 1, p83, p84, p85, p86, p87, p88 =>
    bif (decide (p86 < p85)) then
      bif ((decide ((0 : Int) ≤ p86)) && (decide (p86 < (p84.length : Int)))) then
      bif (!((decide (((p84.getD p86.toNat (0, 0, 0, 0, 0)).1) = (0 : Int))) && ((decide (((p84.getD p86.toNat (0, 0, 0, 0, 0)).2.1) = (0 : Int))) && ((decide (((p84.getD p86.toNat (0, 0, 0, 0, 0)).2.2.1) = (0 : Int))) && ((decide (((p84.getD p86.toNat (0, 0, 0, 0, 0)).2.2.2.1) = (0 : Int))) && (decide (((p84.getD p86.toNat (0, 0, 0, 0, 0)).2.2.2.2) = (0 : Int)))))))) then
        (f_impl_InsOk ((p84.getD p86.toNat (0, 0, 0, 0, 0)).1) ((p84.getD p86.toNat (0, 0, 0, 0, 0)).2.1) ((p84.getD p86.toNat (0, 0, 0, 0, 0)).2.2.1) ((p84.getD p86.toNat (0, 0, 0, 0, 0)).2.2.2.1) ((p84.getD p86.toNat (0, 0, 0, 0, 0)).2.2.2.2)).bind fun y89 =>
        bif (!y89) then
          some (.inl false)
        else
          (f_impl_Ends ((p84.getD p86.toNat (0, 0, 0, 0, 0)).1) ((p84.getD p86.toNat (0, 0, 0, 0, 0)).2.1) ((p84.getD p86.toNat (0, 0, 0, 0, 0)).2.2.1) ((p84.getD p86.toNat (0, 0, 0, 0, 0)).2.2.2.1) ((p84.getD p86.toNat (0, 0, 0, 0, 0)).2.2.2.2)).bind fun y90 =>
          bif y90 then
            bif (decide ((IntKind.wrap .i64 (p86 + (1 : Int))) < (p88.length : Int))) then
              some (.inl false)
            else
              f_impl_BlockOk.l0 n p83 p84 p85 (IntKind.wrap .i64 (p86 + (1 : Int))) p87 p88
          else
            f_impl_BlockOk.l0 n p83 p84 p85 (IntKind.wrap .i64 (p86 + (1 : Int))) p87 p88
      else
        (f_impl_Ends ((p84.getD p86.toNat (0, 0, 0, 0, 0)).1) ((p84.getD p86.toNat (0, 0, 0, 0, 0)).2.1) ((p84.getD p86.toNat (0, 0, 0, 0, 0)).2.2.1) ((p84.getD p86.toNat (0, 0, 0, 0, 0)).2.2.2.1) ((p84.getD p86.toNat (0, 0, 0, 0, 0)).2.2.2.2)).bind fun y91 =>
        bif y91 then
          bif (decide ((IntKind.wrap .i64 (p86 + (1 : Int))) < (p88.length : Int))) then
            some (.inl false)
          else
            f_impl_BlockOk.l0 n p83 p84 p85 (IntKind.wrap .i64 (p86 + (1 : Int))) p87 p88
        else
          f_impl_BlockOk.l0 n p83 p84 p85 (IntKind.wrap .i64 (p86 + (1 : Int))) p87 p88
      else none
    else
      some (.inr p83)
noncomputable def f_impl_BlockOk (x0 : Int) (x1 : List (Int × Int × Int × Int × Int)) : Option (Bool) :=
  (f_impl_isCell x0).bind fun y81 =>
  bif (!y81) then
    some false
  else
    (f_impl_from (x1.length : Int) 1 (bif (decide ((IntKind.wrap .i64 ((4 : Int) - (Int.tmod x0 (4 : Int)))) < (4 : Int))) then (IntKind.wrap .i64 ((4 : Int) - (Int.tmod x0 (4 : Int)))) else 4)).bind fun y82 =>
    bif (!y82) then
      some false
    else
      (f_impl_BlockOk.l0 N false x1 (x1.length : Int) 0 x0 x1).bind fun r92 =>
      cs r92 (fun a93 =>
        some a93) (fun b94 =>
        some true)
noncomputable def C47 : Con := ⟨[(.B, true, [(.int .i64), (.sl R0)])], [(false, [.bool])], [(.int .i64), (.sl R0)], [.bool], fun (p : Int × (List (Int × Int × Int × Int × Int))) => f_impl_BlockOk p.1 p.2⟩
noncomputable def f_impl_BlockOk.l0.c : LoopCon := ⟨1000, 6, [1, 2, 22, 23, 24], ⟨[(1, .ptr 1000 0), (2, .bool false), (22, .bor none R0 []), (23, .int .i64 0), (24, .int .i64 0)], [(1000, .box [.int .i64 0, .bor none R0 []])], 1001⟩, [.bool, (.sl R0), (.int .i64), (.int .i64), (.int .i64), (.sl R0)], [⟨.ret, [2], ⟨[(2, .bool false)], [], 1000⟩, [.bool]⟩, ⟨.exit 0, [2], ⟨[(2, .bool false)], [], 1000⟩, [.bool]⟩], fun (p : Bool × (List (Int × Int × Int × Int × Int)) × Int × Int × Int × (List (Int × Int × Int × Int × Int))) => f_impl_BlockOk.l0 N p.1 p.2.1 p.2.2.1 p.2.2.2.1 p.2.2.2.2.1 p.2.2.2.2.2⟩
noncomputable abbrev K47 : Cons := [(71, C71), (78, C78), (98, C98), (99, C99)]
noncomputable abbrev L47 : List (Nat × Loops) := [(47, [(4, f_impl_BlockOk.l0.c)])]
abbrev Q47 : List (Nat × List (Int × Nat) × Nat) := []
noncomputable abbrev X47 : Nat → Ctx := ctxOf tb K47 L47 Q47
theorem f_impl_BlockOk.l0.ok : ∀ n p, (fun (p : Bool × (List (Int × Int × Int × Int × Int)) × Int × Int × Int × (List (Int × Int × Int × Int × Int))) => f_impl_BlockOk.l0 n p.1 p.2.1 p.2.2.1 p.2.2.2.1 p.2.2.2.2.1 p.2.2.2.2.2) p = iterD (roundOf fs X47 6 47 4 false f_impl_BlockOk.l0.c) n p :=
  iter_of (l := fun n => fun (p : Bool × (List (Int × Int × Int × Int × Int)) × Int × Int × Int × (List (Int × Int × Int × Int × Int))) => f_impl_BlockOk.l0 n p.1 p.2.1 p.2.2.1 p.2.2.2.1 p.2.2.2.2.1 p.2.2.2.2.2) (fun _ => rfl) (fun n p => by kernel_rfl)
theorem E47 : ∀ x, funRun fs X47 6 47 C47 x = C47.fn x := fun x => by kernel_rfl
theorem B47 : ConB Try.prog 47 C47 := ConB.make FS MIX TY (cons := K47) (L := L47) (ptrs := Q47) ⟨S71, S78, S98, S99, trivial⟩ trivial ⟨⟨⟨N, fun p => f_impl_BlockOk.l0.ok N p⟩, trivial⟩, trivial⟩ rfl rfl E47
theorem S47 : ConS Try.prog 47 C47 := B47.call rfl
/-! impl.At: function 55 -/
noncomputable def f_impl_At (x0 : Int) (x1 : List (Int × Int × Int × Int × Int)) (x2 : Int) : Option (Int × Int × Int × Int × Int × Bool) :=
  (f_impl_BlockOk x0 x1).bind fun y95 =>
  bif (!y95) then
    some (0, 0, 0, 0, 0, false)
  else
    (f_impl_from x2 x0 (IntKind.wrap .i64 ((IntKind.wrap .i64 (x0 + (x1.length : Int))) - (1 : Int)))).bind fun y96 =>
    bif (!y96) then
      some (0, 0, 0, 0, 0, false)
    else
      bif ((decide ((0 : Int) ≤ (IntKind.wrap .i64 (x2 - x0)))) && (decide ((IntKind.wrap .i64 (x2 - x0)) < (x1.length : Int)))) then
      some ((x1.getD (IntKind.wrap .i64 (x2 - x0)).toNat (0, 0, 0, 0, 0)).1, (x1.getD (IntKind.wrap .i64 (x2 - x0)).toNat (0, 0, 0, 0, 0)).2.1, (x1.getD (IntKind.wrap .i64 (x2 - x0)).toNat (0, 0, 0, 0, 0)).2.2.1, (x1.getD (IntKind.wrap .i64 (x2 - x0)).toNat (0, 0, 0, 0, 0)).2.2.2.1, (x1.getD (IntKind.wrap .i64 (x2 - x0)).toNat (0, 0, 0, 0, 0)).2.2.2.2, true)
      else none
noncomputable def C55 : Con := ⟨[(.B, true, [(.int .i64), (.sl R0)]), (.B, false, [(.int .i64)])], [(true, [(.int .i64), (.int .i64), (.int .i64), (.int .i64), (.int .i64)]), (false, [.bool])], [(.int .i64), (.sl R0), (.int .i64)], [(.int .i64), (.int .i64), (.int .i64), (.int .i64), (.int .i64), .bool], fun (p : Int × (List (Int × Int × Int × Int × Int)) × Int) => f_impl_At p.1 p.2.1 p.2.2⟩
noncomputable abbrev K55 : Cons := [(47, C47), (71, C71)]
noncomputable abbrev L55 : List (Nat × Loops) := []
abbrev Q55 : List (Nat × List (Int × Nat) × Nat) := []
noncomputable abbrev X55 : Nat → Ctx := ctxOf tb K55 L55 Q55
theorem E55 : ∀ x, funRun fs X55 6 55 C55 x = C55.fn x := fun x => by kernel_rfl
theorem B55 : ConB Try.prog 55 C55 := ConB.make FS MIX TY (cons := K55) (L := L55) (ptrs := Q55) ⟨S47, S71, trivial⟩ trivial trivial rfl rfl E55
theorem S55 : ConS Try.prog 55 C55 := B55.call rfl
/-! impl.CacheFind: function 66 -/
noncomputable def f_impl_CacheFind.l0 : Nat → Int → Bool → (List (Int × (List (Int × Int × Int × Int × Int)))) → Int → Int → Int → Int → Int → Int → Int → Option ((Bool × Int × Int × Int × Int × Int) ⊕ (Bool × Int × Int × Int × Int × Int))
  | 0, _, _, _, _, _, _, _, _, _, _ => none
  | n + 1, p97, p98, p99, p100, p101, p102, p103, p104, p105, p106 =>
    bif (decide (p101 < p100)) then
      bif ((decide ((0 : Int) ≤ p101)) && (decide (p101 < (p99.length : Int)))) then
      (f_impl_At ((p99.getD p101.toNat (0, [])).1) ((p99.getD p101.toNat (0, [])).2) p97).bind fun y107 =>
      bif y107.2.2.2.2.2 then
        some (.inl (true, y107.1, y107.2.1, y107.2.2.1, y107.2.2.2.1, y107.2.2.2.2.1))
      else
        f_impl_CacheFind.l0 n p97 p98 p99 p100 (IntKind.wrap .i64 (p101 + (1 : Int))) p102 p103 p104 p105 p106
      else none
    else
      some (.inr (p98, p102, p103, p104, p105, p106))
noncomputable def f_impl_CacheFind (x0 : List (Int × (List (Int × Int × Int × Int × Int)))) (x1 : Int) : Option (Int × Int × Int × Int × Int × Bool) :=
  (f_impl_CacheFind.l0 N x1 false x0 (x0.length : Int) 0 0 0 0 0 0).bind fun r108 =>
  cs r108 (fun a109 =>
    some (a109.2.1, a109.2.2.1, a109.2.2.2.1, a109.2.2.2.2.1, a109.2.2.2.2.2, a109.1)) (fun b110 =>
    some (0, 0, 0, 0, 0, false))
noncomputable def C66 : Con := ⟨[(.B, false, [(.sl R1)]), (.B, false, [(.int .i64)])], [(true, [(.int .i64), (.int .i64), (.int .i64), (.int .i64), (.int .i64)]), (false, [.bool])], [(.sl R1), (.int .i64)], [(.int .i64), (.int .i64), (.int .i64), (.int .i64), (.int .i64), .bool], fun (p : (List (Int × (List (Int × Int × Int × Int × Int)))) × Int) => f_impl_CacheFind p.1 p.2⟩
noncomputable def f_impl_CacheFind.l0.c : LoopCon := ⟨1000, 6, [1, 4, 5, 10, 11, 12], ⟨[(1, .int .i64 0), (4, .ptr 1000 0), (5, .bool false), (10, .bor none R1 []), (11, .int .i64 0), (12, .int .i64 0)], [(1000, .box [.int .i64 0, .int .i64 0, .int .i64 0, .int .i64 0, .int .i64 0])], 1001⟩, [(.int .i64), .bool, (.sl R1), (.int .i64), (.int .i64), (.int .i64), (.int .i64), (.int .i64), (.int .i64), (.int .i64)], [⟨.ret, [4, 5], ⟨[(4, .ptr 1000 0), (5, .bool false)], [(1000, .box [.int .i64 0, .int .i64 0, .int .i64 0, .int .i64 0, .int .i64 0])], 1001⟩, [.bool, (.int .i64), (.int .i64), (.int .i64), (.int .i64), (.int .i64)]⟩, ⟨.exit 0, [4, 5], ⟨[(4, .ptr 1000 0), (5, .bool false)], [(1000, .box [.int .i64 0, .int .i64 0, .int .i64 0, .int .i64 0, .int .i64 0])], 1001⟩, [.bool, (.int .i64), (.int .i64), (.int .i64), (.int .i64), (.int .i64)]⟩], fun (p : Int × Bool × (List (Int × (List (Int × Int × Int × Int × Int)))) × Int × Int × Int × Int × Int × Int × Int) => f_impl_CacheFind.l0 N p.1 p.2.1 p.2.2.1 p.2.2.2.1 p.2.2.2.2.1 p.2.2.2.2.2.1 p.2.2.2.2.2.2.1 p.2.2.2.2.2.2.2.1 p.2.2.2.2.2.2.2.2.1 p.2.2.2.2.2.2.2.2.2⟩
noncomputable abbrev K66 : Cons := [(55, C55)]
noncomputable abbrev L66 : List (Nat × Loops) := [(66, [(2, f_impl_CacheFind.l0.c)])]
abbrev Q66 : List (Nat × List (Int × Nat) × Nat) := []
noncomputable abbrev X66 : Nat → Ctx := ctxOf tb K66 L66 Q66
theorem f_impl_CacheFind.l0.ok : ∀ n p, (fun (p : Int × Bool × (List (Int × (List (Int × Int × Int × Int × Int)))) × Int × Int × Int × Int × Int × Int × Int) => f_impl_CacheFind.l0 n p.1 p.2.1 p.2.2.1 p.2.2.2.1 p.2.2.2.2.1 p.2.2.2.2.2.1 p.2.2.2.2.2.2.1 p.2.2.2.2.2.2.2.1 p.2.2.2.2.2.2.2.2.1 p.2.2.2.2.2.2.2.2.2) p = iterD (roundOf fs X66 6 66 2 false f_impl_CacheFind.l0.c) n p :=
  iter_of (l := fun n => fun (p : Int × Bool × (List (Int × (List (Int × Int × Int × Int × Int)))) × Int × Int × Int × Int × Int × Int × Int) => f_impl_CacheFind.l0 n p.1 p.2.1 p.2.2.1 p.2.2.2.1 p.2.2.2.2.1 p.2.2.2.2.2.1 p.2.2.2.2.2.2.1 p.2.2.2.2.2.2.2.1 p.2.2.2.2.2.2.2.2.1 p.2.2.2.2.2.2.2.2.2) (fun _ => rfl) (fun n p => by kernel_rfl)
theorem E66 : ∀ x, funRun fs X66 6 66 C66 x = C66.fn x := fun x => by kernel_rfl
theorem B66 : ConB Try.prog 66 C66 := ConB.make FS MIX TY (cons := K66) (L := L66) (ptrs := Q66) ⟨S55, trivial⟩ trivial ⟨⟨⟨N, fun p => f_impl_CacheFind.l0.ok N p⟩, trivial⟩, trivial⟩ rfl rfl E66
theorem S66 : ConS Try.prog 66 C66 := B66.call rfl
/-! laws.eqIns: function 56 -/
noncomputable def f_laws_eqIns (x0 : Int) (x1 : Int) (x2 : Int) (x3 : Int) (x4 : Int) (x5 : Int) (x6 : Int) (x7 : Int) (x8 : Int) (x9 : Int) : Option (Bool) :=
  bif (!(decide (x0 = x5))) then
    some false
  else
    bif (!(decide (x1 = x6))) then
      some false
    else
      bif (!(decide (x2 = x7))) then
        some false
      else
        bif (!(decide (x3 = x8))) then
          some false
        else
          bif (!(decide (x4 = x9))) then
            some false
          else
            some true
noncomputable def C56 : Con := ⟨[(.B, true, [(.int .i64), (.int .i64), (.int .i64), (.int .i64), (.int .i64)]), (.B, true, [(.int .i64), (.int .i64), (.int .i64), (.int .i64), (.int .i64)])], [(false, [.bool])], [(.int .i64), (.int .i64), (.int .i64), (.int .i64), (.int .i64), (.int .i64), (.int .i64), (.int .i64), (.int .i64), (.int .i64)], [.bool], fun (p : Int × Int × Int × Int × Int × Int × Int × Int × Int × Int) => f_laws_eqIns p.1 p.2.1 p.2.2.1 p.2.2.2.1 p.2.2.2.2.1 p.2.2.2.2.2.1 p.2.2.2.2.2.2.1 p.2.2.2.2.2.2.2.1 p.2.2.2.2.2.2.2.2.1 p.2.2.2.2.2.2.2.2.2⟩
noncomputable abbrev K56 : Cons := []
noncomputable abbrev L56 : List (Nat × Loops) := []
abbrev Q56 : List (Nat × List (Int × Nat) × Nat) := []
noncomputable abbrev X56 : Nat → Ctx := ctxOf tb K56 L56 Q56
theorem E56 : ∀ x, funRun fs X56 6 56 C56 x = C56.fn x := fun x => by kernel_rfl
theorem B56 : ConB Try.prog 56 C56 := ConB.make FS MIX TY (cons := K56) (L := L56) (ptrs := Q56) trivial trivial trivial rfl rfl E56
theorem S56 : ConS Try.prog 56 C56 := B56.call rfl
/-! laws.eqInsS: function 100 -/
noncomputable def f_laws_eqInsS.l0 : Nat → (List (Int × Int × Int × Int × Int)) → (List (Int × Int × Int × Int × Int)) → Bool → Int → Option ((Bool) ⊕ (Bool))
  | 0, _, _, _, _ => none
  | n + 1, p111, p112, p113, p114 =>
    bif (decide (p114 < (p111.length : Int))) then
      bif ((decide ((0 : Int) ≤ p114)) && (decide (p114 < (p111.length : Int)))) then
      bif ((decide ((0 : Int) ≤ p114)) && (decide (p114 < (p112.length : Int)))) then
      (f_laws_eqIns ((p111.getD p114.toNat (0, 0, 0, 0, 0)).1) ((p111.getD p114.toNat (0, 0, 0, 0, 0)).2.1) ((p111.getD p114.toNat (0, 0, 0, 0, 0)).2.2.1) ((p111.getD p114.toNat (0, 0, 0, 0, 0)).2.2.2.1) ((p111.getD p114.toNat (0, 0, 0, 0, 0)).2.2.2.2) ((p112.getD p114.toNat (0, 0, 0, 0, 0)).1) ((p112.getD p114.toNat (0, 0, 0, 0, 0)).2.1) ((p112.getD p114.toNat (0, 0, 0, 0, 0)).2.2.1) ((p112.getD p114.toNat (0, 0, 0, 0, 0)).2.2.2.1) ((p112.getD p114.toNat (0, 0, 0, 0, 0)).2.2.2.2)).bind fun y115 =>
      bif (!y115) then
        some (.inl false)
      else
        f_laws_eqInsS.l0 n p111 p112 p113 (IntKind.wrap .i64 (p114 + (1 : Int)))
      else none
      else none
    else
      some (.inr p113)
noncomputable def f_laws_eqInsS (x0 : List (Int × Int × Int × Int × Int)) (x1 : List (Int × Int × Int × Int × Int)) : Option (Bool) :=
  bif (!(decide ((x0.length : Int) = (x1.length : Int)))) then
    some false
  else
    (f_laws_eqInsS.l0 N x0 x1 false 0).bind fun r116 =>
    cs r116 (fun a117 =>
      some a117) (fun b118 =>
      some true)
noncomputable def C100 : Con := ⟨[(.B, false, [(.sl R0)]), (.B, false, [(.sl R0)])], [(false, [.bool])], [(.sl R0), (.sl R0)], [.bool], fun (p : (List (Int × Int × Int × Int × Int)) × (List (Int × Int × Int × Int × Int))) => f_laws_eqInsS p.1 p.2⟩
noncomputable def f_laws_eqInsS.l0.c : LoopCon := ⟨1000, 6, [0, 1, 4, 5], ⟨[(0, .bor none R0 []), (1, .bor none R0 []), (4, .bool false), (5, .int .i64 0)], [], 1000⟩, [(.sl R0), (.sl R0), .bool, (.int .i64)], [⟨.ret, [4], ⟨[(4, .bool false)], [], 1000⟩, [.bool]⟩, ⟨.exit 0, [4], ⟨[(4, .bool false)], [], 1000⟩, [.bool]⟩], fun (p : (List (Int × Int × Int × Int × Int)) × (List (Int × Int × Int × Int × Int)) × Bool × Int) => f_laws_eqInsS.l0 N p.1 p.2.1 p.2.2.1 p.2.2.2⟩
noncomputable abbrev K100 : Cons := [(56, C56)]
noncomputable abbrev L100 : List (Nat × Loops) := [(100, [(4, f_laws_eqInsS.l0.c)])]
abbrev Q100 : List (Nat × List (Int × Nat) × Nat) := []
noncomputable abbrev X100 : Nat → Ctx := ctxOf tb K100 L100 Q100
theorem f_laws_eqInsS.l0.ok : ∀ n p, (fun (p : (List (Int × Int × Int × Int × Int)) × (List (Int × Int × Int × Int × Int)) × Bool × Int) => f_laws_eqInsS.l0 n p.1 p.2.1 p.2.2.1 p.2.2.2) p = iterD (roundOf fs X100 6 100 4 false f_laws_eqInsS.l0.c) n p :=
  iter_of (l := fun n => fun (p : (List (Int × Int × Int × Int × Int)) × (List (Int × Int × Int × Int × Int)) × Bool × Int) => f_laws_eqInsS.l0 n p.1 p.2.1 p.2.2.1 p.2.2.2) (fun _ => rfl) (fun n p => by kernel_rfl)
theorem E100 : ∀ x, funRun fs X100 6 100 C100 x = C100.fn x := fun x => by kernel_rfl
theorem B100 : ConB Try.prog 100 C100 := ConB.make FS MIX TY (cons := K100) (L := L100) (ptrs := Q100) ⟨S56, trivial⟩ trivial ⟨⟨⟨N, fun p => f_laws_eqInsS.l0.ok N p⟩, trivial⟩, trivial⟩ rfl rfl E100
theorem S100 : ConS Try.prog 100 C100 := B100.call rfl
/-! laws.eqBlock: function 48 -/
noncomputable def f_laws_eqBlock (x0 : Int) (x1 : List (Int × Int × Int × Int × Int)) (x2 : Int) (x3 : List (Int × Int × Int × Int × Int)) : Option (Bool) :=
  bif (!(decide (x0 = x2))) then
    some false
  else
    (f_laws_eqInsS x1 x3).bind fun y119 =>
    bif (!y119) then
      some false
    else
      some true
noncomputable def C48 : Con := ⟨[(.B, true, [(.int .i64), (.sl R0)]), (.B, true, [(.int .i64), (.sl R0)])], [(false, [.bool])], [(.int .i64), (.sl R0), (.int .i64), (.sl R0)], [.bool], fun (p : Int × (List (Int × Int × Int × Int × Int)) × Int × (List (Int × Int × Int × Int × Int))) => f_laws_eqBlock p.1 p.2.1 p.2.2.1 p.2.2.2⟩
noncomputable abbrev K48 : Cons := [(100, C100)]
noncomputable abbrev L48 : List (Nat × Loops) := []
abbrev Q48 : List (Nat × List (Int × Nat) × Nat) := []
noncomputable abbrev X48 : Nat → Ctx := ctxOf tb K48 L48 Q48
theorem E48 : ∀ x, funRun fs X48 6 48 C48 x = C48.fn x := fun x => by kernel_rfl
theorem B48 : ConB Try.prog 48 C48 := ConB.make FS MIX TY (cons := K48) (L := L48) (ptrs := Q48) ⟨S100, trivial⟩ trivial trivial rfl rfl E48
theorem S48 : ConS Try.prog 48 C48 := B48.call rfl
/-! laws.eqBlockS: function 67 -/
noncomputable def f_laws_eqBlockS.l0 : Nat → (List (Int × (List (Int × Int × Int × Int × Int)))) → (List (Int × (List (Int × Int × Int × Int × Int)))) → Bool → Int → Option ((Bool) ⊕ (Bool))
  | 0, _, _, _, _ => none
  | n + 1, p120, p121, p122, p123 =>
    bif (decide (p123 < (p120.length : Int))) then
      bif ((decide ((0 : Int) ≤ p123)) && (decide (p123 < (p120.length : Int)))) then
      bif ((decide ((0 : Int) ≤ p123)) && (decide (p123 < (p121.length : Int)))) then
      (f_laws_eqBlock ((p120.getD p123.toNat (0, [])).1) ((p120.getD p123.toNat (0, [])).2) ((p121.getD p123.toNat (0, [])).1) ((p121.getD p123.toNat (0, [])).2)).bind fun y124 =>
      bif (!y124) then
        some (.inl false)
      else
        f_laws_eqBlockS.l0 n p120 p121 p122 (IntKind.wrap .i64 (p123 + (1 : Int)))
      else none
      else none
    else
      some (.inr p122)
noncomputable def f_laws_eqBlockS (x0 : List (Int × (List (Int × Int × Int × Int × Int)))) (x1 : List (Int × (List (Int × Int × Int × Int × Int)))) : Option (Bool) :=
  bif (!(decide ((x0.length : Int) = (x1.length : Int)))) then
    some false
  else
    (f_laws_eqBlockS.l0 N x0 x1 false 0).bind fun r125 =>
    cs r125 (fun a126 =>
      some a126) (fun b127 =>
      some true)
noncomputable def C67 : Con := ⟨[(.B, false, [(.sl R1)]), (.B, false, [(.sl R1)])], [(false, [.bool])], [(.sl R1), (.sl R1)], [.bool], fun (p : (List (Int × (List (Int × Int × Int × Int × Int)))) × (List (Int × (List (Int × Int × Int × Int × Int))))) => f_laws_eqBlockS p.1 p.2⟩
noncomputable def f_laws_eqBlockS.l0.c : LoopCon := ⟨1000, 6, [0, 1, 4, 5], ⟨[(0, .bor none R1 []), (1, .bor none R1 []), (4, .bool false), (5, .int .i64 0)], [], 1000⟩, [(.sl R1), (.sl R1), .bool, (.int .i64)], [⟨.ret, [4], ⟨[(4, .bool false)], [], 1000⟩, [.bool]⟩, ⟨.exit 0, [4], ⟨[(4, .bool false)], [], 1000⟩, [.bool]⟩], fun (p : (List (Int × (List (Int × Int × Int × Int × Int)))) × (List (Int × (List (Int × Int × Int × Int × Int)))) × Bool × Int) => f_laws_eqBlockS.l0 N p.1 p.2.1 p.2.2.1 p.2.2.2⟩
noncomputable abbrev K67 : Cons := [(48, C48)]
noncomputable abbrev L67 : List (Nat × Loops) := [(67, [(4, f_laws_eqBlockS.l0.c)])]
abbrev Q67 : List (Nat × List (Int × Nat) × Nat) := []
noncomputable abbrev X67 : Nat → Ctx := ctxOf tb K67 L67 Q67
theorem f_laws_eqBlockS.l0.ok : ∀ n p, (fun (p : (List (Int × (List (Int × Int × Int × Int × Int)))) × (List (Int × (List (Int × Int × Int × Int × Int)))) × Bool × Int) => f_laws_eqBlockS.l0 n p.1 p.2.1 p.2.2.1 p.2.2.2) p = iterD (roundOf fs X67 6 67 4 false f_laws_eqBlockS.l0.c) n p :=
  iter_of (l := fun n => fun (p : (List (Int × (List (Int × Int × Int × Int × Int)))) × (List (Int × (List (Int × Int × Int × Int × Int)))) × Bool × Int) => f_laws_eqBlockS.l0 n p.1 p.2.1 p.2.2.1 p.2.2.2) (fun _ => rfl) (fun n p => by kernel_rfl)
theorem E67 : ∀ x, funRun fs X67 6 67 C67 x = C67.fn x := fun x => by kernel_rfl
theorem B67 : ConB Try.prog 67 C67 := ConB.make FS MIX TY (cons := K67) (L := L67) (ptrs := Q67) ⟨S48, trivial⟩ trivial ⟨⟨⟨N, fun p => f_laws_eqBlockS.l0.ok N p⟩, trivial⟩, trivial⟩ rfl rfl E67
theorem S67 : ConS Try.prog 67 C67 := B67.call rfl
/-! laws.FnExactCacheFind: function 14 -/
noncomputable def f_laws_FnExactCacheFind (x0 : List (Int × (List (Int × Int × Int × Int × Int)))) (x1 : Int) : Option (Bool) :=
  (f_laws_szBlockS x0 1048576).bind fun y128 =>
  bif (decide (y128 < (0 : Int))) then
    some true
  else
    (f_laws_toBlockS x0).bind fun y129 =>
    (f_spec_CacheFind y129 x1).bind fun y130 =>
    (f_laws_toBlockS x0).bind fun y131 =>
    (f_impl_CacheFind y131 x1).bind fun y132 =>
    (f_laws_eqIns y132.1 y132.2.1 y132.2.2.1 y132.2.2.2.1 y132.2.2.2.2.1 y130.1 y130.2.1 y130.2.2.1 y130.2.2.2.1 y130.2.2.2.2.1).bind fun y133 =>
    bif (!y133) then
      some false
    else
      bif (!(y132.2.2.2.2.2 == y130.2.2.2.2.2)) then
        some false
      else
        (f_laws_toBlockS x0).bind fun y134 =>
        (f_laws_eqBlockS y131 y134).bind fun y135 =>
        bif (!y135) then
          some false
        else
          some true
noncomputable def C14 : Con := ⟨[(.B, false, [(.sl R1)]), (.B, false, [(.int .i64)])], [(false, [.bool])], [(.sl R1), (.int .i64)], [.bool], fun (p : (List (Int × (List (Int × Int × Int × Int × Int)))) × Int) => f_laws_FnExactCacheFind p.1 p.2⟩
noncomputable abbrev K14 : Cons := [(56, C56), (63, C63), (64, C64), (65, C65), (66, C66), (67, C67)]
noncomputable abbrev L14 : List (Nat × Loops) := []
abbrev Q14 : List (Nat × List (Int × Nat) × Nat) := []
noncomputable abbrev X14 : Nat → Ctx := ctxOf tb K14 L14 Q14
theorem E14 : ∀ x, funRun fs X14 6 14 C14 x = C14.fn x := fun x => by kernel_rfl
theorem B14 : ConB Try.prog 14 C14 := ConB.make FS MIX TY (cons := K14) (L := L14) (ptrs := Q14) ⟨S56, S63, S64, S65, S66, S67, trivial⟩ trivial trivial rfl rfl E14
theorem S14 : ConS Try.prog 14 C14 := B14.call rfl
/-- What is left: the plain law. -/
def Pure : Prop := ∀ x : Tup [(.sl R1), (.int .i64)], WfT [(.sl R1), (.int .i64)] x → C14.fn x = some (true : Bool)
end
end Go.Abs
