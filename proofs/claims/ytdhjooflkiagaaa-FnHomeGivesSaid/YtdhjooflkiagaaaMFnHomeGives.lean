import Derived.Test.YtdhjooflkiagaaaProg
import Derived.Test.YtdhjooflkiagaaaAbtD
import Derived.KernelRfl
namespace Go.Abs
open Go.Proofs
set_option linter.unusedVariables false
set_option maxRecDepth 100000
noncomputable section
abbrev N : Nat := 1152921504606846976
abbrev R0 : RT := .one (.int .u8)
abbrev R1 : RT := .one (.int .i64)
abbrev R2 : RT := .one .bool
abbrev R3 : RT := .cons (.int .i64) (.one .bool)
abbrev R4 : RT := .cons (.int .i64) (.cons (.int .i64) (.cons (.int .i64) (.cons .bool (.one (.sl R1)))))
abbrev R5 : RT := .cons (.int .i64) (.cons (.int .i64) (.cons (.int .i64) (.cons .bool (.one (.vs R1)))))
noncomputable def tb : Tb := [(0, ⟨false, [], [], 0, 0, false⟩),
  (3, ⟨false, [(.int .i64)], [], 0, 8, false⟩),
  (4, ⟨false, [.bool], [], 0, 1, false⟩),
  (5, ⟨false, [(.int .u8)], [], 0, 1, false⟩),
  (22, ⟨false, [(.sl R0)], [], 5, 24, false⟩),
  (31, ⟨false, [(.sl R1)], [], 3, 24, false⟩),
  (33, ⟨true, [(.int .i64), (.int .i64), .bool, (.sl R1)], [(0, 3), (1, 3), (2, 4), (3, 31)], 0, 48, false⟩),
  (42, ⟨false, [(.sl R2)], [], 4, 24, false⟩),
  (44, ⟨true, [(.int .i64), .bool], [(0, 3), (1, 4)], 0, 16, false⟩),
  (45, ⟨false, [(.sl R3)], [], 44, 24, false⟩),
  (47, ⟨true, [(.sl R1), (.int .i64), (.sl R2), .bool, (.int .i64), .bool, (.int .i64), (.sl R3)], [(0, 31), (1, 3), (2, 42), (3, 4), (4, 44), (6, 3), (7, 45)], 0, 112, false⟩),
  (50, ⟨true, [(.int .i64), (.int .i64), (.int .i64), .bool, (.sl R1)], [(0, 3), (1, 33)], 0, 56, false⟩),
  (51, ⟨false, [(.sl R4)], [], 50, 24, false⟩),
  (52, ⟨false, [], [], 0, 0, false⟩),
  (78, ⟨false, [], [], 0, 8, false⟩),
  (87, ⟨false, [], [], 0, 8, false⟩),
  (89, ⟨true, [(.sl R1), (.int .i64), (.sl R2), .bool, (.int .i64), .bool, (.int .i64), (.sl R3), (.int .i64), (.sl R4)], [(0, 47), (8, 3), (9, 51)], 0, 144, false⟩),
  (91, ⟨false, [], [], 0, 8, false⟩),
  (93, ⟨true, [(.sl R1), (.int .i64), (.sl R2), .bool, (.int .i64), .bool, (.int .i64), (.sl R3), (.int .i64), (.sl R4)], [(0, 47), (8, 3), (9, 51)], 0, 144, false⟩),
  (122, ⟨false, [], [], 0, 8, false⟩)]
noncomputable def fsL : List (Nat × Func) := [(7, Try.f7), (43, Try.f43), (14, Try.f14), (8, Try.f8), (107, Try.f107), (106, Try.f106), (115, Try.f115), (105, Try.f105), (85, Try.f85), (48, Try.f48), (89, Try.f89), (108, Try.f108), (88, Try.f88), (47, Try.f47), (84, Try.f84), (37, Try.f37), (51, Try.f51), (90, Try.f90), (91, Try.f91), (49, Try.f49), (50, Try.f50), (52, Try.f52), (15, Try.f15), (54, Try.f54), (86, Try.f86), (53, Try.f53), (41, Try.f41), (55, Try.f55), (93, Try.f93), (92, Try.f92), (56, Try.f56), (57, Try.f57), (16, Try.f16), (18, Try.f18), (17, Try.f17), (4, Try.f4)]
noncomputable def fs : Nat → Option Func := getF fsL
theorem MIX : Try.prog.follows .mixedOrders = true := by kernel_rfl
theorem TY : tyCheck Try.prog tb = true := by kernel_rfl
theorem CAT : catCheck tb = true := by kernel_rfl
theorem FSP : FsP Try.prog fsL := ⟨Try.func7, Try.func43, Try.func14, Try.func8, Try.func107, Try.func106, Try.func115, Try.func105, Try.func85, Try.func48, Try.func89, Try.func108, Try.func88, Try.func47, Try.func84, Try.func37, Try.func51, Try.func90, Try.func91, Try.func49, Try.func50, Try.func52, Try.func15, Try.func54, Try.func86, Try.func53, Try.func41, Try.func55, Try.func93, Try.func92, Try.func56, Try.func57, Try.func16, Try.func18, Try.func17, Try.func4, trivial⟩
theorem FSC : (fsL.all fun p => fnChk p.2) = true := by kernel_rfl
theorem FS : FsS Try.prog fs := FsS.of FSP FSC
/-! laws.big: function 7 -/
noncomputable def f_laws_big (x0 : List Int) : Option (Bool) :=
  some (decide ((1048576 : Int) < (x0.length : Int)))
noncomputable def C7 : Con := ⟨[(.B, false, [(.sl R0)])], [(false, [.bool])], [(.sl R0)], [.bool], fun (p : List Int) => f_laws_big p⟩
noncomputable abbrev K7 : Cons := []
noncomputable abbrev L7 : List (Nat × Loops) := []
abbrev Q7 : List (Nat × List (Int × Nat) × Nat) := []
noncomputable abbrev X7 : Nat → Ctx := ctxOf tb K7 L7 Q7
theorem E7 : ∀ x, funRun fs X7 6 7 C7 x = C7.fn x := fun x => by kernel_rfl
theorem B7 : ConB Try.prog 7 C7 := ConB.make FS MIX TY (cons := K7) (L := L7) (ptrs := Q7) trivial trivial trivial rfl rfl E7
theorem S7 : ConS Try.prog 7 C7 := B7.call rfl
/-! impl.from: function 43 -/
noncomputable def f_impl_from (x0 : Int) (x1 : Int) (x2 : Int) : Option (Bool) :=
  bif (decide (x1 ≤ x0)) then
    some (decide (x0 ≤ x2))
  else
    some false
noncomputable def C43 : Con := ⟨[(.B, false, [(.int .i64)]), (.B, false, [(.int .i64)]), (.B, false, [(.int .i64)])], [(false, [.bool])], [(.int .i64), (.int .i64), (.int .i64)], [.bool], fun (p : Int × Int × Int) => f_impl_from p.1 p.2.1 p.2.2⟩
noncomputable abbrev K43 : Cons := []
noncomputable abbrev L43 : List (Nat × Loops) := []
abbrev Q43 : List (Nat × List (Int × Nat) × Nat) := []
noncomputable abbrev X43 : Nat → Ctx := ctxOf tb K43 L43 Q43
theorem E43 : ∀ x, funRun fs X43 6 43 C43 x = C43.fn x := fun x => by kernel_rfl
theorem B43 : ConB Try.prog 43 C43 := ConB.make FS MIX TY (cons := K43) (L := L43) (ptrs := Q43) trivial trivial trivial rfl rfl E43
theorem S43 : ConS Try.prog 43 C43 := B43.call rfl
/-! impl.HomeNew: function 14 -/
noncomputable def f_impl_HomeNew (x0 : Int) : Option (List Int × Int × List Bool × Bool × Int × Bool × Int × (List (Int × Bool))) :=
  (f_impl_from x0 1 4).bind fun y1 =>
  bif (!y1) then
    some ([], 0, [], false, 0, false, 0, [])
  else
    bif (decide ((0 : Int) ≤ x0) && Nat.ble x0.toNat 140737488355328) then
    some ((List.replicate 4 0), -1, (List.replicate x0.toNat false), false, 0, false, 0, [])
    else none
noncomputable def C14 : Con := ⟨[(.B, false, [(.int .i64)])], [(true, [(.sl R1), (.int .i64), (.sl R2), .bool, (.int .i64), .bool, (.int .i64), (.sl R3)])], [(.int .i64)], [(.sl R1), (.int .i64), (.sl R2), .bool, (.int .i64), .bool, (.int .i64), (.sl R3)], fun (p : Int) => f_impl_HomeNew p⟩
noncomputable abbrev K14 : Cons := [(43, C43)]
noncomputable abbrev L14 : List (Nat × Loops) := []
abbrev Q14 : List (Nat × List (Int × Nat) × Nat) := []
noncomputable abbrev X14 : Nat → Ctx := ctxOf tb K14 L14 Q14
theorem E14 : ∀ x, funRun fs X14 6 14 C14 x = C14.fn x := fun x => by kernel_rfl
theorem B14 : ConB Try.prog 14 C14 := ConB.make FS MIX TY (cons := K14) (L := L14) (ptrs := Q14) ⟨S43, trivial⟩ trivial trivial rfl rfl E14
theorem S14 : ConS Try.prog 14 C14 := B14.call rfl
/-! laws.at: function 8 -/
noncomputable def f_laws_at (x0 : List Int) (x1 : Int) : Option (Int) :=
  bif (decide (x1 < (x0.length : Int))) then
    bif ((decide ((0 : Int) ≤ x1)) && (decide (x1 < (x0.length : Int)))) then
    some (IntKind.wrap .i64 ((x0.getD x1.toNat 0)))
    else none
  else
    some (Int.tmod (IntKind.wrap .i64 ((IntKind.wrap .i64 (x1 * (7 : Int))) + (x0.length : Int))) (256 : Int))
noncomputable def C8 : Con := ⟨[(.B, false, [(.sl R0)]), (.B, false, [(.int .i64)])], [(false, [(.int .i64)])], [(.sl R0), (.int .i64)], [(.int .i64)], fun (p : List Int × Int) => f_laws_at p.1 p.2⟩
noncomputable abbrev K8 : Cons := []
noncomputable abbrev L8 : List (Nat × Loops) := []
abbrev Q8 : List (Nat × List (Int × Nat) × Nat) := []
noncomputable abbrev X8 : Nat → Ctx := ctxOf tb K8 L8 Q8
theorem E8 : ∀ x, funRun fs X8 6 8 C8 x = C8.fn x := fun x => by kernel_rfl
theorem B8 : ConB Try.prog 8 C8 := ConB.make FS MIX TY (cons := K8) (L := L8) (ptrs := Q8) trivial trivial trivial rfl rfl E8
theorem S8 : ConS Try.prog 8 C8 := B8.call rfl
/-! impl.isWord: function 107 -/
noncomputable def f_impl_isWord (x0 : Int) : Option (Bool) :=
  (f_impl_from x0 0 65535).bind fun y2 =>
  some y2
noncomputable def C107 : Con := ⟨[(.B, false, [(.int .i64)])], [(false, [.bool])], [(.int .i64)], [.bool], fun (p : Int) => f_impl_isWord p⟩
noncomputable abbrev K107 : Cons := [(43, C43)]
noncomputable abbrev L107 : List (Nat × Loops) := []
abbrev Q107 : List (Nat × List (Int × Nat) × Nat) := []
noncomputable abbrev X107 : Nat → Ctx := ctxOf tb K107 L107 Q107
theorem E107 : ∀ x, funRun fs X107 6 107 C107 x = C107.fn x := fun x => by kernel_rfl
theorem B107 : ConB Try.prog 107 C107 := ConB.make FS MIX TY (cons := K107) (L := L107) (ptrs := Q107) ⟨S43, trivial⟩ trivial trivial rfl rfl E107
theorem S107 : ConS Try.prog 107 C107 := B107.call rfl
/-! impl.wordsOk$1: function 106 -/
noncomputable def f_impl_wordsOk_1 (x0 : Int) : Option (Bool) :=
  (f_impl_isWord x0).bind fun y3 =>
  some (!y3)
noncomputable def C106 : Con := ⟨[(.B, false, [(.int .i64)])], [(false, [.bool])], [(.int .i64)], [.bool], fun (p : Int) => f_impl_wordsOk_1 p⟩
noncomputable abbrev K106 : Cons := [(107, C107)]
noncomputable abbrev L106 : List (Nat × Loops) := []
abbrev Q106 : List (Nat × List (Int × Nat) × Nat) := []
noncomputable abbrev X106 : Nat → Ctx := ctxOf tb K106 L106 Q106
theorem E106 : ∀ x, funRun fs X106 6 106 C106 x = C106.fn x := fun x => by kernel_rfl
theorem B106 : ConB Try.prog 106 C106 := ConB.make FS MIX TY (cons := K106) (L := L106) (ptrs := Q106) ⟨S107, trivial⟩ trivial trivial rfl rfl E106
theorem S106 : ConS Try.prog 106 C106 := B106.call rfl
/-! impl.wordsOk: function 85 -/
noncomputable def f_impl_wordsOk.l0 : Nat → (List Int) → Int → Int → Int → Option ((Int) ⊕ (Int))
  | 0, _, _, _, _ => none
  | n + 1, p4, p5, p6, p7 =>
    bif (decide (p7 < p6)) then
      bif ((decide ((0 : Int) ≤ p7)) && (decide (p7 < (p4.length : Int)))) then
      (f_impl_wordsOk_1 (p4.getD p7.toNat 0)).bind fun y8 =>
      bif y8 then
        some (.inl p7)
      else
        f_impl_wordsOk.l0 n p4 p5 p6 (IntKind.wrap .i64 (p7 + (1 : Int)))
      else none
    else
      some (.inr p5)
noncomputable def f_impl_wordsOk (x0 : List Int) (x1 : Int) : Option (Bool) :=
  bif (decide ((x0.length : Int) = x1)) then
    (f_impl_wordsOk.l0 N x0 0 (x0.length : Int) 0).bind fun r9 =>
    cs r9 (fun a10 =>
      some (!(decide ((0 : Int) ≤ a10)))) (fun b11 =>
      some true)
  else
    some false
noncomputable def C85 : Con := ⟨[(.B, false, [(.sl R1)]), (.B, false, [(.int .i64)])], [(false, [.bool])], [(.sl R1), (.int .i64)], [.bool], fun (p : List Int × Int) => f_impl_wordsOk p.1 p.2⟩
noncomputable abbrev f_impl_wordsOk.l0.u (n : Nat) := fun (p : List Int × Int × Int × Int) => f_impl_wordsOk.l0 n p.1 p.2.1 p.2.2.1 p.2.2.2
noncomputable def f_impl_wordsOk.l0.c : LoopCon := ⟨1274, 4, [0, 1, 4, 7, 8], ⟨[(0, .bor none R1 []), (1, .func 106 []), (4, .int .i64 0), (7, .int .i64 0), (8, .int .i64 0)], [], 1274⟩, [(.sl R1), (.int .i64), (.int .i64), (.int .i64)], [⟨.ret, [4], ⟨[(4, .int .i64 0)], [], 1274⟩, [(.int .i64)]⟩, ⟨.exit 0, [4], ⟨[(4, .int .i64 0)], [], 1274⟩, [(.int .i64)]⟩], f_impl_wordsOk.l0.u N⟩
noncomputable abbrev K85 : Cons := [(106, C106)]
noncomputable abbrev L85 : List (Nat × Loops) := [(115, [(2, f_impl_wordsOk.l0.c)])]
abbrev Q85 : List (Nat × List (Int × Nat) × Nat) := []
noncomputable abbrev X85 : Nat → Ctx := ctxOf tb K85 L85 Q85
theorem f_impl_wordsOk.l0.ok : ∀ n p, f_impl_wordsOk.l0.u n p = iterD (roundOf fs X85 4 115 2 true f_impl_wordsOk.l0.c) n p :=
  iter_of (l := f_impl_wordsOk.l0.u) (fun _ => rfl) (fun n p => by kernel_rfl)
theorem E85 : ∀ x, funRun fs X85 6 85 C85 x = C85.fn x := fun x => by kernel_rfl
theorem B85 : ConB Try.prog 85 C85 := ConB.make FS MIX TY (cons := K85) (L := L85) (ptrs := Q85) ⟨S106, trivial⟩ trivial ⟨⟨⟨N, fun p => f_impl_wordsOk.l0.ok N p⟩, trivial⟩, trivial⟩ rfl rfl E85
theorem S85 : ConS Try.prog 85 C85 := B85.call rfl
/-! impl.isOf: function 48 -/
noncomputable def f_impl_isOf (x0 : Int) (x1 : Int) : Option (Bool) :=
  (f_impl_from x1 1 4).bind fun y12 =>
  bif y12 then
    (f_impl_from x0 0 (IntKind.wrap .i64 (x1 - (1 : Int)))).bind fun y13 =>
    some y13
  else
    some false
noncomputable def C48 : Con := ⟨[(.B, false, [(.int .i64)]), (.B, false, [(.int .i64)])], [(false, [.bool])], [(.int .i64), (.int .i64)], [.bool], fun (p : Int × Int) => f_impl_isOf p.1 p.2⟩
noncomputable abbrev K48 : Cons := [(43, C43)]
noncomputable abbrev L48 : List (Nat × Loops) := []
abbrev Q48 : List (Nat × List (Int × Nat) × Nat) := []
noncomputable abbrev X48 : Nat → Ctx := ctxOf tb K48 L48 Q48
theorem E48 : ∀ x, funRun fs X48 6 48 C48 x = C48.fn x := fun x => by kernel_rfl
theorem B48 : ConB Try.prog 48 C48 := ConB.make FS MIX TY (cons := K48) (L := L48) (ptrs := Q48) ⟨S43, trivial⟩ trivial trivial rfl rfl E48
theorem S48 : ConS Try.prog 48 C48 := B48.call rfl
/-! impl.HomeOk$1: function 89 -/
noncomputable def f_impl_HomeOk_1 (x0 : Int) (x1 : Bool) (x2 : Int) : Option (Bool) :=
  (f_impl_isOf x0 x2).bind fun y14 =>
  some (!y14)
noncomputable def C89 : Con := ⟨[(.B, true, [(.int .i64), .bool]), (.Q, false, [(.int .i64)])], [(false, [.bool])], [(.int .i64), .bool, (.int .i64)], [.bool], fun (p : Int × Bool × Int) => f_impl_HomeOk_1 p.1 p.2.1 p.2.2⟩
noncomputable abbrev K89 : Cons := [(48, C48)]
noncomputable abbrev L89 : List (Nat × Loops) := []
abbrev Q89 : List (Nat × List (Int × Nat) × Nat) := []
noncomputable abbrev X89 : Nat → Ctx := ctxOf tb K89 L89 Q89
theorem E89 : ∀ x, funG fs X89 6 89 C89 x = C89.fn x := fun x => by kernel_rfl
theorem B89 : ConG Try.prog 89 C89 := ConG.make FS MIX TY (cons := K89) (L := L89) (ptrs := Q89) ⟨S48, trivial⟩ trivial trivial rfl (by kernel_rfl) E89
theorem S89 : ConS Try.prog 89 C89 := B89.call (by kernel_rfl)
/-! impl.HomeOk: function 47 -/
noncomputable def f_impl_HomeOk.l0 : Nat → (List (Int × Bool)) → Int → Int → Int → (List Int) → Int → (List Bool) → Bool → Int → Bool → Int → (List (Int × Bool)) → Int → Option ((Int × List Int × Int × List Bool × Bool × Int × Bool × Int × (List (Int × Bool)) × Int) ⊕ (Int × List Int × Int × List Bool × Bool × Int × Bool × Int × (List (Int × Bool)) × Int))
  | 0, _, _, _, _, _, _, _, _, _, _, _, _, _ => none
  | n + 1, p20, p21, p22, p23, p24, p25, p26, p27, p28, p29, p30, p31, p32 =>
    bif (decide (p23 < p22)) then
      bif ((decide ((0 : Int) ≤ p23)) && (decide (p23 < (p20.length : Int)))) then
      (f_impl_HomeOk_1 ((p20.getD p23.toNat (0, false)).1) ((p20.getD p23.toNat (0, false)).2) p32).bind fun y33 =>
      bif y33 then
        some (.inl (p23, p24, p25, p26, p27, p28, p29, p30, p31, p32))
      else
        f_impl_HomeOk.l0 n p20 p21 p22 (IntKind.wrap .i64 (p23 + (1 : Int))) p24 p25 p26 p27 p28 p29 p30 p31 p32
      else none
    else
      some (.inr (p21, p24, p25, p26, p27, p28, p29, p30, p31, p32))
noncomputable def f_impl_HomeOk (x0 : List Int) (x1 : Int) (x2 : List Bool) (x3 : Bool) (x4 : Int) (x5 : Bool) (x6 : Int) (x7 : List (Int × Bool)) (x8 : Int) : Option (Bool) :=
  (f_impl_from x8 1 4).bind fun y15 =>
  bif y15 then
    (f_impl_wordsOk x0 4).bind fun y16 =>
    bif y16 then
      (f_impl_from x1 (-1) (IntKind.wrap .i64 (x8 - (1 : Int)))).bind fun y17 =>
      bif y17 then
        bif (decide ((x2.length : Int) = x8)) then
          (f_impl_isOf x4 x8).bind fun y18 =>
          bif y18 then
            (f_impl_from x6 0 x8).bind fun y19 =>
            bif y19 then
              bif (decide ((x7.length : Int) ≤ (12 : Int))) then
                (f_impl_HomeOk.l0 N x7 0 (x7.length : Int) 0 x0 x1 x2 x3 x4 x5 x6 x7 x8).bind fun r34 =>
                cs r34 (fun a35 =>
                  some (!(decide ((0 : Int) ≤ a35.1)))) (fun b36 =>
                  some true)
              else
                some false
            else
              some false
          else
            some false
        else
          some false
      else
        some false
    else
      some false
  else
    some false
noncomputable def C47 : Con := ⟨[(.B, true, [(.sl R1), (.int .i64), (.sl R2), .bool, (.int .i64), .bool, (.int .i64), (.sl R3)]), (.B, false, [(.int .i64)])], [(false, [.bool])], [(.sl R1), (.int .i64), (.sl R2), .bool, (.int .i64), .bool, (.int .i64), (.sl R3), (.int .i64)], [.bool], fun (p : List Int × Int × List Bool × Bool × Int × Bool × Int × (List (Int × Bool)) × Int) => f_impl_HomeOk p.1 p.2.1 p.2.2.1 p.2.2.2.1 p.2.2.2.2.1 p.2.2.2.2.2.1 p.2.2.2.2.2.2.1 p.2.2.2.2.2.2.2.1 p.2.2.2.2.2.2.2.2⟩
noncomputable abbrev f_impl_HomeOk.l0.u (n : Nat) := fun (p : (List (Int × Bool)) × Int × Int × Int × List Int × Int × List Bool × Bool × Int × Bool × Int × (List (Int × Bool)) × Int) => f_impl_HomeOk.l0 n p.1 p.2.1 p.2.2.1 p.2.2.2.1 p.2.2.2.2.1 p.2.2.2.2.2.1 p.2.2.2.2.2.2.1 p.2.2.2.2.2.2.2.1 p.2.2.2.2.2.2.2.2.1 p.2.2.2.2.2.2.2.2.2.1 p.2.2.2.2.2.2.2.2.2.2.1 p.2.2.2.2.2.2.2.2.2.2.2.1 p.2.2.2.2.2.2.2.2.2.2.2.2
noncomputable def f_impl_HomeOk.l0.c : LoopCon := ⟨1921, 4, [0, 1, 4, 7, 8], ⟨[(0, .bor none R3 []), (1, .func 89 [.ptr 1025 0]), (4, .int .i64 0), (7, .int .i64 0), (8, .int .i64 0)], [(1009, .box [.bor (some 0) R1 [], .int .i64 0, .bor (some 2) R2 [], .bool false, .int .i64 0, .bool false, .int .i64 0, .bor (some 7) R3 []]), (1025, .box [.int .i64 0])], 1921⟩, [(.sl R3), (.int .i64), (.int .i64), (.int .i64), (.sl R1), (.int .i64), (.sl R2), .bool, (.int .i64), .bool, (.int .i64), (.sl R3), (.int .i64)], [⟨.ret, [4], ⟨[(4, .int .i64 0)], [(1009, .box [.bor (some 0) R1 [], .int .i64 0, .bor (some 2) R2 [], .bool false, .int .i64 0, .bool false, .int .i64 0, .bor (some 7) R3 []]), (1025, .box [.int .i64 0])], 1921⟩, [(.int .i64), (.sl R1), (.int .i64), (.sl R2), .bool, (.int .i64), .bool, (.int .i64), (.sl R3), (.int .i64)]⟩, ⟨.exit 0, [4], ⟨[(4, .int .i64 0)], [(1009, .box [.bor (some 0) R1 [], .int .i64 0, .bor (some 2) R2 [], .bool false, .int .i64 0, .bool false, .int .i64 0, .bor (some 7) R3 []]), (1025, .box [.int .i64 0])], 1921⟩, [(.int .i64), (.sl R1), (.int .i64), (.sl R2), .bool, (.int .i64), .bool, (.int .i64), (.sl R3), (.int .i64)]⟩], f_impl_HomeOk.l0.u N⟩
noncomputable abbrev K47 : Cons := [(43, C43), (48, C48), (85, C85), (89, C89)]
noncomputable abbrev L47 : List (Nat × Loops) := [(108, [(2, f_impl_HomeOk.l0.c)])]
abbrev Q47 : List (Nat × List (Int × Nat) × Nat) := []
noncomputable abbrev X47 : Nat → Ctx := ctxOf tb K47 L47 Q47
theorem f_impl_HomeOk.l0.ok : ∀ n p, f_impl_HomeOk.l0.u n p = iterD (roundOf fs X47 4 108 2 true f_impl_HomeOk.l0.c) n p :=
  iter_of (l := f_impl_HomeOk.l0.u) (fun _ => rfl) (fun n p => by kernel_rfl)
theorem E47 : ∀ x, funRun fs X47 6 47 C47 x = C47.fn x := fun x => by kernel_rfl
theorem B47 : ConB Try.prog 47 C47 := ConB.make FS MIX TY (cons := K47) (L := L47) (ptrs := Q47) ⟨S43, S48, S85, S89, trivial⟩ trivial ⟨⟨⟨N, fun p => f_impl_HomeOk.l0.ok N p⟩, trivial⟩, trivial⟩ rfl rfl E47
theorem S47 : ConS Try.prog 47 C47 := B47.call rfl
/-! impl.isPage: function 84 -/
noncomputable def f_impl_isPage (x0 : Int) : Option (Bool) :=
  (f_impl_from x0 0 5).bind fun y37 =>
  some y37
noncomputable def C84 : Con := ⟨[(.B, false, [(.int .i64)])], [(false, [.bool])], [(.int .i64)], [.bool], fun (p : Int) => f_impl_isPage p⟩
noncomputable abbrev K84 : Cons := [(43, C43)]
noncomputable abbrev L84 : List (Nat × Loops) := []
abbrev Q84 : List (Nat × List (Int × Nat) × Nat) := []
noncomputable abbrev X84 : Nat → Ctx := ctxOf tb K84 L84 Q84
theorem E84 : ∀ x, funRun fs X84 6 84 C84 x = C84.fn x := fun x => by kernel_rfl
theorem B84 : ConB Try.prog 84 C84 := ConB.make FS MIX TY (cons := K84) (L := L84) (ptrs := Q84) ⟨S43, trivial⟩ trivial trivial rfl rfl E84
theorem S84 : ConS Try.prog 84 C84 := B84.call rfl
/-! impl.MsgOk: function 37 -/
noncomputable def f_impl_MsgOk (x0 : Int) (x1 : Int) (x2 : Bool) (x3 : List Int) : Option (Bool) :=
  (f_impl_from x0 1 7).bind fun y38 =>
  bif (!y38) then
    some false
  else
    (f_impl_isPage x1).bind fun y39 =>
    bif (!y39) then
      some false
    else
      bif x2 then
        bif (!(decide (x0 = (3 : Int)))) then
          bif (!(decide (x0 = (6 : Int)))) then
            some false
          else
            bif (decide (x0 = (3 : Int))) then
              (f_impl_wordsOk x3 4).bind fun y40 =>
              some y40
            else
              bif (decide (x0 = (7 : Int))) then
                (f_impl_wordsOk x3 4).bind fun y41 =>
                some y41
              else
                some (decide ((x3.length : Int) = (0 : Int)))
        else
          bif (decide (x0 = (3 : Int))) then
            (f_impl_wordsOk x3 4).bind fun y42 =>
            some y42
          else
            bif (decide (x0 = (7 : Int))) then
              (f_impl_wordsOk x3 4).bind fun y43 =>
              some y43
            else
              some (decide ((x3.length : Int) = (0 : Int)))
      else
        bif (decide (x0 = (3 : Int))) then
          (f_impl_wordsOk x3 4).bind fun y44 =>
          some y44
        else
          bif (decide (x0 = (7 : Int))) then
            (f_impl_wordsOk x3 4).bind fun y45 =>
            some y45
          else
            some (decide ((x3.length : Int) = (0 : Int)))
noncomputable def C37 : Con := ⟨[(.B, true, [(.int .i64), (.int .i64), .bool, (.sl R1)])], [(false, [.bool])], [(.int .i64), (.int .i64), .bool, (.sl R1)], [.bool], fun (p : Int × Int × Bool × List Int) => f_impl_MsgOk p.1 p.2.1 p.2.2.1 p.2.2.2⟩
noncomputable abbrev K37 : Cons := [(43, C43), (84, C84), (85, C85)]
noncomputable abbrev L37 : List (Nat × Loops) := []
abbrev Q37 : List (Nat × List (Int × Nat) × Nat) := []
noncomputable abbrev X37 : Nat → Ctx := ctxOf tb K37 L37 Q37
theorem E37 : ∀ x, funRun fs X37 6 37 C37 x = C37.fn x := fun x => by kernel_rfl
theorem B37 : ConB Try.prog 37 C37 := ConB.make FS MIX TY (cons := K37) (L := L37) (ptrs := Q37) ⟨S43, S84, S85, trivial⟩ trivial trivial rfl rfl E37
theorem S37 : ConS Try.prog 37 C37 := B37.call rfl
/-! slices.Clone[[]int,int]: function 51 -/
noncomputable def f_slices_Clone_int_int (x0 : List Int) : Option (List Int) := bif Nat.blt (0 + x0.length) 17592186044416 then some x0 else none
noncomputable def C51 : Con := ⟨[(.B, false, [(.sl R1)])], [(false, [(.sl R1)])], [(.sl R1)], [(.sl R1)], f_slices_Clone_int_int⟩
noncomputable abbrev X51 : Nat → Ctx := ctxOf tb [] [] []
theorem E51 : ∀ x : List R1.den, bodyRun fs X51 6 51 C51 [] [] [.bor (some 1000) R1 x] [] = f_slices_Clone_int_int x := fun x => by kernel_rfl
theorem Z51 : bodyRun fs X51 6 51 C51 [] [] [.nil (some R1)] [] = f_slices_Clone_int_int ([] : List R1.den) := by kernel_rfl
theorem B51 : ConB Try.prog 51 C51 := ConB.copy FS MIX TY (cons := []) (L := []) (ptrs := []) trivial trivial trivial rfl E51 Z51
theorem S51 : ConS Try.prog 51 C51 := B51.call rfl
/-! slices.Clone[[]bool,bool]: function 90 -/
noncomputable def f_slices_Clone_bool_bool (x0 : List Bool) : Option (List Bool) := bif Nat.blt (0 + x0.length) 140737488355328 then some x0 else none
noncomputable def C90 : Con := ⟨[(.B, false, [(.sl R2)])], [(false, [(.sl R2)])], [(.sl R2)], [(.sl R2)], f_slices_Clone_bool_bool⟩
noncomputable abbrev X90 : Nat → Ctx := ctxOf tb [] [] []
theorem E90 : ∀ x : List R2.den, bodyRun fs X90 6 90 C90 [] [] [.bor (some 1000) R2 x] [] = f_slices_Clone_bool_bool x := fun x => by kernel_rfl
theorem Z90 : bodyRun fs X90 6 90 C90 [] [] [.nil (some R2)] [] = f_slices_Clone_bool_bool ([] : List R2.den) := by kernel_rfl
theorem B90 : ConB Try.prog 90 C90 := ConB.copy FS MIX TY (cons := []) (L := []) (ptrs := []) trivial trivial trivial rfl E90 Z90
theorem S90 : ConS Try.prog 90 C90 := B90.call rfl
/-! slices.Clone[[]loop.example/g00281/impl.Wait,loop.example/g00281/impl.Wait]: function 91 -/
noncomputable def f_slices_Clone_impl_Wait_impl_Wait (x0 : List (Int × Bool)) : Option (List (Int × Bool)) := bif Nat.blt (0 + x0.length) 8796093022208 then some x0 else none
noncomputable def C91 : Con := ⟨[(.B, false, [(.sl R3)])], [(false, [(.sl R3)])], [(.sl R3)], [(.sl R3)], f_slices_Clone_impl_Wait_impl_Wait⟩
noncomputable abbrev X91 : Nat → Ctx := ctxOf tb [] [] []
theorem E91 : ∀ x : List R3.den, bodyRun fs X91 6 91 C91 [] [] [.bor (some 1000) R3 x] [] = f_slices_Clone_impl_Wait_impl_Wait x := fun x => by kernel_rfl
theorem Z91 : bodyRun fs X91 6 91 C91 [] [] [.nil (some R3)] [] = f_slices_Clone_impl_Wait_impl_Wait ([] : List R3.den) := by kernel_rfl
theorem B91 : ConB Try.prog 91 C91 := ConB.copy FS MIX TY (cons := []) (L := []) (ptrs := []) trivial trivial trivial rfl E91 Z91
theorem S91 : ConS Try.prog 91 C91 := B91.call rfl
/-! impl.copyHome: function 49 -/
noncomputable def f_impl_copyHome (x0 : List Int) (x1 : Int) (x2 : List Bool) (x3 : Bool) (x4 : Int) (x5 : Bool) (x6 : Int) (x7 : List (Int × Bool)) : Option (List Int × Int × List Bool × Bool × Int × Bool × Int × (List (Int × Bool))) :=
  (f_slices_Clone_int_int x0).bind fun y46 =>
  (f_slices_Clone_bool_bool x2).bind fun y47 =>
  (f_slices_Clone_impl_Wait_impl_Wait x7).bind fun y48 =>
  some (y46, x1, y47, x3, x4, x5, x6, y48)
noncomputable def C49 : Con := ⟨[(.B, true, [(.sl R1), (.int .i64), (.sl R2), .bool, (.int .i64), .bool, (.int .i64), (.sl R3)])], [(true, [(.sl R1), (.int .i64), (.sl R2), .bool, (.int .i64), .bool, (.int .i64), (.sl R3)])], [(.sl R1), (.int .i64), (.sl R2), .bool, (.int .i64), .bool, (.int .i64), (.sl R3)], [(.sl R1), (.int .i64), (.sl R2), .bool, (.int .i64), .bool, (.int .i64), (.sl R3)], fun (p : List Int × Int × List Bool × Bool × Int × Bool × Int × (List (Int × Bool))) => f_impl_copyHome p.1 p.2.1 p.2.2.1 p.2.2.2.1 p.2.2.2.2.1 p.2.2.2.2.2.1 p.2.2.2.2.2.2.1 p.2.2.2.2.2.2.2⟩
noncomputable abbrev K49 : Cons := [(51, C51), (90, C90), (91, C91)]
noncomputable abbrev L49 : List (Nat × Loops) := []
abbrev Q49 : List (Nat × List (Int × Nat) × Nat) := []
noncomputable abbrev X49 : Nat → Ctx := ctxOf tb K49 L49 Q49
theorem E49 : ∀ x, funRun fs X49 6 49 C49 x = C49.fn x := fun x => by kernel_rfl
theorem B49 : ConB Try.prog 49 C49 := ConB.make FS MIX TY (cons := K49) (L := L49) (ptrs := Q49) ⟨S51, S90, S91, trivial⟩ trivial trivial rfl rfl E49
theorem S49 : ConS Try.prog 49 C49 := B49.call rfl
/-! impl.keeper).give: function 50 -/
noncomputable def f_impl_keeper_give (x0 : List Int) (x1 : Int) (x2 : List Bool) (x3 : Bool) (x4 : Int) (x5 : Bool) (x6 : Int) (x7 : List (Int × Bool)) (x8 : Int) (x9 : List (Int × Int × Int × Bool × List Int)) : Option (List Int × Int × List Bool × Bool × Int × Bool × Int × (List (Int × Bool)) × Int × (List (Int × Int × Int × Bool × List Int))) :=
  (f_slices_Clone_int_int x0).bind fun y49 =>
  bif (Nat.blt (x9.length + ([(x4, 3, x8, x5, y49)] : List (Int × Int × Int × Bool × List Int)).length) 2513169434916) then
  (some ((x9 ++ ([(x4, 3, x8, x5, y49)] : List (Int × Int × Int × Bool × List Int))) : List (Int × Int × Int × Bool × List Int))).bind fun z50 =>
  bif ((decide ((0 : Int) ≤ x4)) && (decide (x4 < (x2.length : Int)))) then
  (some ((x2.set x4.toNat (!x5)) : List Bool)).bind fun z51 =>
  bif x5 then
    some (x0, x4, z51, false, 0, false, x6, x7, x8, z50)
  else
    some (x0, x1, z51, false, 0, false, x6, x7, x8, z50)
  else none
  else none
noncomputable def C50 : Con := ⟨[(.P [true, true, true, true, true, true, true, true, true, true], false, [(.sl R1), (.int .i64), (.sl R2), .bool, (.int .i64), .bool, (.int .i64), (.sl R3), (.int .i64), (.sl R4)])], [], [(.sl R1), (.int .i64), (.sl R2), .bool, (.int .i64), .bool, (.int .i64), (.sl R3), (.int .i64), (.sl R4)], [(.sl R1), (.int .i64), (.sl R2), .bool, (.int .i64), .bool, (.int .i64), (.sl R3), (.int .i64), (.sl R4)], fun (p : List Int × Int × List Bool × Bool × Int × Bool × Int × (List (Int × Bool)) × Int × (List (Int × Int × Int × Bool × List Int))) => f_impl_keeper_give p.1 p.2.1 p.2.2.1 p.2.2.2.1 p.2.2.2.2.1 p.2.2.2.2.2.1 p.2.2.2.2.2.2.1 p.2.2.2.2.2.2.2.1 p.2.2.2.2.2.2.2.2.1 p.2.2.2.2.2.2.2.2.2⟩
noncomputable abbrev K50 : Cons := [(51, C51)]
noncomputable abbrev L50 : List (Nat × Loops) := []
abbrev Q50 : List (Nat × List (Int × Nat) × Nat) := []
noncomputable abbrev X50 : Nat → Ctx := ctxOf tb K50 L50 Q50
theorem E50 : ∀ x, funG fs X50 6 50 C50 x = C50.fn x := fun x => by kernel_rfl
theorem B50 : ConG Try.prog 50 C50 := ConG.make FS MIX TY (cons := K50) (L := L50) (ptrs := Q50) ⟨S51, trivial⟩ trivial trivial rfl (by kernel_rfl) E50
theorem S50 : ConS Try.prog 50 C50 := B50.call (by kernel_rfl)
/-! impl.keeper).begin: function 52 -/
noncomputable def f_impl_keeper_begin.l0 : Nat → Int → Int → Int → Bool → Int → Bool → Int → Int → Int → Int → (List Bool) → (List Int) → (List (Int × Bool)) → (List (Int × Int × Int × Bool × List Int)) → Option (Int × Bool × Int × Bool × Int × Int × Int × Int × List Int × List Bool × (List (Int × Bool)) × (List (Int × Int × Int × Bool × List Int)))
  | 0, _, _, _, _, _, _, _, _, _, _, _, _, _, _ => none
  | n + 1, p53, p54, p55, p56, p57, p58, p59, p60, p61, p62, p63, p64, p65, p66 =>
    bif (decide (p54 < p53)) then
      bif ((decide ((0 : Int) ≤ p54)) && (decide (p54 < (p63.length : Int)))) then
      bif p58 then
        bif (p63.getD p54.toNat false) then
          bif (!(decide (p54 = p57))) then
            bif (Nat.blt (p66.length + ([(p54, 4, p62, false, [])] : List (Int × Int × Int × Bool × List Int)).length) 2513169434916) then
            (some ((p66 ++ ([(p54, 4, p62, false, [])] : List (Int × Int × Int × Bool × List Int))) : List (Int × Int × Int × Bool × List Int))).bind fun z67 =>
            bif ((decide ((0 : Int) ≤ p54)) && (decide (p54 < (p63.length : Int)))) then
            (some ((p63.set p54.toNat false) : List Bool)).bind fun z68 =>
            f_impl_keeper_begin.l0 n p53 (IntKind.wrap .i64 (p54 + (1 : Int))) p55 p56 p57 p58 (IntKind.wrap .i64 (p59 + (1 : Int))) p60 p61 p62 z68 p64 p65 z67
            else none
            else none
          else
            f_impl_keeper_begin.l0 n p53 (IntKind.wrap .i64 (p54 + (1 : Int))) p55 p56 p57 p58 p59 p60 p61 p62 p63 p64 p65 p66
        else
          f_impl_keeper_begin.l0 n p53 (IntKind.wrap .i64 (p54 + (1 : Int))) p55 p56 p57 p58 p59 p60 p61 p62 p63 p64 p65 p66
      else
        f_impl_keeper_begin.l0 n p53 (IntKind.wrap .i64 (p54 + (1 : Int))) p55 p56 p57 p58 p59 p60 p61 p62 p63 p64 p65 p66
      else none
    else
      some (p55, p56, p57, p58, p59, p60, p61, p62, p64, p63, p65, p66)
noncomputable def f_impl_keeper_begin (x0 : List Int) (x1 : Int) (x2 : List Bool) (x3 : Bool) (x4 : Int) (x5 : Bool) (x6 : Int) (x7 : List (Int × Bool)) (x8 : Int) (x9 : List (Int × Int × Int × Bool × List Int)) : Option (List Int × Int × List Bool × Bool × Int × Bool × Int × (List (Int × Bool)) × Int × (List (Int × Int × Int × Bool × List Int))) :=
  bif (decide ((0 : Int) < (x7.length : Int))) then
  bif (decide ((1 : Int) ≤ (x7.length : Int))) then
  bif (decide ((0 : Int) ≤ x1)) then
    bif (Nat.blt (x9.length + ([(x1, 6, x8, (x7.getD 0 (0, false)).2, [])] : List (Int × Int × Int × Bool × List Int)).length) 2513169434916) then
    (some ((x9 ++ ([(x1, 6, x8, (x7.getD 0 (0, false)).2, [])] : List (Int × Int × Int × Bool × List Int))) : List (Int × Int × Int × Bool × List Int))).bind fun z52 =>
    some (x0, x1, x2, true, (x7.getD 0 (0, false)).1, (x7.getD 0 (0, false)).2, x6, ((x7.drop 1).take ((x7.length : Int) - (1 : Int)).toNat), x8, z52)
    else none
  else
    (f_impl_keeper_begin.l0 N (x2.length : Int) 0 x1 true ((x7.getD 0 (0, false)).1) ((x7.getD 0 (0, false)).2) 0 1 ((x7.length : Int) - (1 : Int)) x8 x2 x0 x7 x9).bind fun r69 =>
    bif (decide (r69.2.2.2.2.1 = (0 : Int))) then
      (f_impl_keeper_give r69.2.2.2.2.2.2.2.2.1 r69.1 r69.2.2.2.2.2.2.2.2.2.1 r69.2.1 r69.2.2.1 r69.2.2.2.1 r69.2.2.2.2.1 ((r69.2.2.2.2.2.2.2.2.2.2.1.drop r69.2.2.2.2.2.1.toNat).take r69.2.2.2.2.2.2.1.toNat) r69.2.2.2.2.2.2.2.1 r69.2.2.2.2.2.2.2.2.2.2.2).bind fun y70 =>
      some (y70.1, y70.2.1, y70.2.2.1, y70.2.2.2.1, y70.2.2.2.2.1, y70.2.2.2.2.2.1, y70.2.2.2.2.2.2.1, y70.2.2.2.2.2.2.2.1, y70.2.2.2.2.2.2.2.2.1, y70.2.2.2.2.2.2.2.2.2)
    else
      some (r69.2.2.2.2.2.2.2.2.1, r69.1, r69.2.2.2.2.2.2.2.2.2.1, r69.2.1, r69.2.2.1, r69.2.2.2.1, r69.2.2.2.2.1, ((r69.2.2.2.2.2.2.2.2.2.2.1.drop r69.2.2.2.2.2.1.toNat).take r69.2.2.2.2.2.2.1.toNat), r69.2.2.2.2.2.2.2.1, r69.2.2.2.2.2.2.2.2.2.2.2)
  else none
  else none
noncomputable def C52 : Con := ⟨[(.P [true, true, true, true, true, true, true, true, true, true], false, [(.sl R1), (.int .i64), (.sl R2), .bool, (.int .i64), .bool, (.int .i64), (.sl R3), (.int .i64), (.sl R4)])], [], [(.sl R1), (.int .i64), (.sl R2), .bool, (.int .i64), .bool, (.int .i64), (.sl R3), (.int .i64), (.sl R4)], [(.sl R1), (.int .i64), (.sl R2), .bool, (.int .i64), .bool, (.int .i64), (.sl R3), (.int .i64), (.sl R4)], fun (p : List Int × Int × List Bool × Bool × Int × Bool × Int × (List (Int × Bool)) × Int × (List (Int × Int × Int × Bool × List Int))) => f_impl_keeper_begin p.1 p.2.1 p.2.2.1 p.2.2.2.1 p.2.2.2.2.1 p.2.2.2.2.2.1 p.2.2.2.2.2.2.1 p.2.2.2.2.2.2.2.1 p.2.2.2.2.2.2.2.2.1 p.2.2.2.2.2.2.2.2.2⟩
noncomputable abbrev f_impl_keeper_begin.l0.u (n : Nat) := fun (p : Int × Int × Int × Bool × Int × Bool × Int × Int × Int × Int × List Bool × List Int × (List (Int × Bool)) × (List (Int × Int × Int × Bool × List Int))) => f_impl_keeper_begin.l0 n p.1 p.2.1 p.2.2.1 p.2.2.2.1 p.2.2.2.2.1 p.2.2.2.2.2.1 p.2.2.2.2.2.2.1 p.2.2.2.2.2.2.2.1 p.2.2.2.2.2.2.2.2.1 p.2.2.2.2.2.2.2.2.2.1 p.2.2.2.2.2.2.2.2.2.2.1 p.2.2.2.2.2.2.2.2.2.2.2.1 p.2.2.2.2.2.2.2.2.2.2.2.2.1 p.2.2.2.2.2.2.2.2.2.2.2.2.2
noncomputable def f_impl_keeper_begin.l0.c : LoopCon := ⟨1000, 6, [0, 69, 70, 71], ⟨[(0, .ptr 500 0), (69, .ref 1000 [] none), (70, .int .i64 0), (71, .int .i64 0)], [(500, .box [.ref 1001 [] none, .int .i64 0, .ref 1000 [] none, .bool false, .int .i64 0, .bool false, .int .i64 0, .ref 1002 [] (some (0, 0)), .int .i64 0, .ref 1003 [] none]), (1000, .row R2 []), (1001, .row R1 []), (1002, .row R3 []), (1003, .row R4 [])], 1004⟩, [(.int .i64), (.int .i64), (.int .i64), .bool, (.int .i64), .bool, (.int .i64), (.int .i64), (.int .i64), (.int .i64), (.sl R2), (.sl R1), (.sl R3), (.sl R4)], [⟨.exit 0, [0], ⟨[(0, .ptr 500 0)], [(500, .box [.ref 1000 [] none, .int .i64 0, .ref 1001 [] none, .bool false, .int .i64 0, .bool false, .int .i64 0, .ref 1002 [] (some (0, 0)), .int .i64 0, .ref 1003 [] none]), (1000, .row R1 []), (1001, .row R2 []), (1002, .row R3 []), (1003, .row R4 [])], 1004⟩, [(.int .i64), .bool, (.int .i64), .bool, (.int .i64), (.int .i64), (.int .i64), (.int .i64), (.sl R1), (.sl R2), (.sl R3), (.sl R4)]⟩], f_impl_keeper_begin.l0.u N⟩
noncomputable abbrev K52 : Cons := [(50, C50)]
noncomputable abbrev L52 : List (Nat × Loops) := [(52, [(7, f_impl_keeper_begin.l0.c)])]
abbrev Q52 : List (Nat × List (Int × Nat) × Nat) := []
noncomputable abbrev X52 : Nat → Ctx := ctxOf tb K52 L52 Q52
theorem f_impl_keeper_begin.l0.ok : ∀ n p, f_impl_keeper_begin.l0.u n p = iterD (roundOf fs X52 6 52 7 false f_impl_keeper_begin.l0.c) n p :=
  iter_of (l := f_impl_keeper_begin.l0.u) (fun _ => rfl) (fun n p => by kernel_rfl)
theorem E52 : ∀ x, funG fs X52 6 52 C52 x = C52.fn x := fun x => by kernel_rfl
theorem B52 : ConG Try.prog 52 C52 := ConG.make FS MIX TY (cons := K52) (L := L52) (ptrs := Q52) ⟨S50, trivial⟩ trivial ⟨⟨⟨N, fun p => f_impl_keeper_begin.l0.ok N p⟩, trivial⟩, trivial⟩ rfl (by kernel_rfl) E52
theorem S52 : ConS Try.prog 52 C52 := B52.call (by kernel_rfl)
/-! impl.HomeHear: function 15 -/
noncomputable def f_impl_HomeHear.l1 : Nat → Int → Bool → Int → Bool → Int → Int → Bool → Int → Bool → Int → Int → (List Int) → (List Bool) → (List (Int × Bool)) → (List Int) → (List Bool) → (List (Int × Bool)) → (List (Int × Int × Int × Bool × List Int)) → Option (Int × Bool × Int × Bool × Int × Int × Bool × Int × Bool × Int × Int × List Int × List Bool × (List (Int × Bool)) × List Int × List Bool × (List (Int × Bool)) × (List (Int × Int × Int × Bool × List Int)))
  | 0, _, _, _, _, _, _, _, _, _, _, _, _, _, _, _, _, _, _ => none
  | n + 1, p453, p454, p455, p456, p457, p458, p459, p460, p461, p462, p463, p464, p465, p466, p467, p468, p469, p470 =>
    bif (!p459) then
      bif (decide ((0 : Int) < (p469.length : Int))) then
        (f_impl_keeper_begin p467 p458 p468 p459 p460 p461 p462 p469 p463 p470).bind fun y496 =>
        f_impl_HomeHear.l1 n p453 p454 p455 p456 p457 y496.2.1 y496.2.2.2.1 y496.2.2.2.2.1 y496.2.2.2.2.2.1 y496.2.2.2.2.2.2.1 y496.2.2.2.2.2.2.2.2.1 p464 p465 p466 y496.1 y496.2.2.1 y496.2.2.2.2.2.2.2.1 y496.2.2.2.2.2.2.2.2.2
      else
        some (p453, p454, p455, p456, p457, p458, p459, p460, p461, p462, p463, p464, p465, p466, p467, p468, p469, p470)
    else
      some (p453, p454, p455, p456, p457, p458, p459, p460, p461, p462, p463, p464, p465, p466, p467, p468, p469, p470)
noncomputable def f_impl_HomeHear.j0 (p179 : Int) (p180 : Bool) (p181 : List Int) (p182 : Int) (p183 : List Bool) (p184 : Bool) (p185 : Int) (p186 : Bool) (p187 : Int) (p188 : List (Int × Bool)) (p189 : Int) (p190 : Int) (p191 : Bool) (p192 : List Int) (p193 : Int) (p194 : Bool) (p195 : Int) (p196 : Bool) (p197 : Int) (p198 : Int) (p199 : Bool) (p200 : Int) (p201 : Bool) (p202 : Int) (p203 : Int) (p204 : List Int) (p205 : List Bool) (p206 : List (Int × Bool)) (p207 : List Int) (p208 : List Bool) (p209 : List (Int × Bool)) (p210 : List (Int × Int × Int × Bool × List Int)) : Option ((Int × Bool × Int × Bool × Int × Int × Bool × Int × Bool × Int × Int × List Int × List Bool × (List (Int × Bool)) × List Int × List Bool × (List (Int × Bool)) × (List (Int × Int × Int × Bool × List Int))) ⊕ (Int × Bool × Int × Bool × Int × List Int × List Bool × (List (Int × Bool)))) :=
    bif p180 then
      bif (Nat.blt (p209.length + ([(p179, (decide (p189 = (2 : Int))))] : List (Int × Bool)).length) 8796093022208) then
      (some ((p209 ++ ([(p179, (decide (p189 = (2 : Int))))] : List (Int × Bool))) : List (Int × Bool))).bind fun z211 =>
      some (.inl (p193, p194, p195, p196, p197, p198, p199, p200, p201, p202, p203, p204, p205, p206, p207, p208, z211, p210))
      else none
    else
      bif (decide (p189 = (5 : Int))) then
        bif p199 then
          bif (decide ((0 : Int) < p202)) then
            bif (decide ((IntKind.wrap .i64 (p202 - (1 : Int))) = (0 : Int))) then
              (f_impl_keeper_give p207 p198 p208 p199 p200 p201 (IntKind.wrap .i64 (p202 - (1 : Int))) p209 p203 p210).bind fun y407 =>
              some (.inl (p193, p194, p195, p196, p197, y407.2.1, y407.2.2.2.1, y407.2.2.2.2.1, y407.2.2.2.2.2.1, y407.2.2.2.2.2.2.1, y407.2.2.2.2.2.2.2.2.1, p204, p205, p206, y407.1, y407.2.2.1, y407.2.2.2.2.2.2.2.1, y407.2.2.2.2.2.2.2.2.2))
            else
              some (.inl (p193, p194, p195, p196, p197, p198, p199, p200, p201, (IntKind.wrap .i64 (p202 - (1 : Int))), p203, p204, p205, p206, p207, p208, p209, p210))
          else
            bif (decide (p189 = (7 : Int))) then
              bif p199 then
                bif (decide (p179 = p198)) then
                  bif (decide (p202 = (0 : Int))) then
                    (f_slices_Clone_int_int p192).bind fun y408 =>
                    bif (!p201) then
                      bif ((decide ((0 : Int) ≤ p198)) && (decide (p198 < (p208.length : Int)))) then
                      (some ((p208.set p198.toNat true) : List Bool)).bind fun z409 =>
                      (f_impl_keeper_give y408 (-1) z409 p199 p200 p201 p202 p209 p203 p210).bind fun y410 =>
                      some (.inl (p193, p194, p195, p196, p197, y410.2.1, y410.2.2.2.1, y410.2.2.2.2.1, y410.2.2.2.2.2.1, y410.2.2.2.2.2.2.1, y410.2.2.2.2.2.2.2.2.1, p204, p205, p206, y410.1, y410.2.2.1, y410.2.2.2.2.2.2.2.1, y410.2.2.2.2.2.2.2.2.2))
                      else none
                    else
                      (f_impl_keeper_give y408 (-1) p208 p199 p200 p201 p202 p209 p203 p210).bind fun y411 =>
                      some (.inl (p193, p194, p195, p196, p197, y411.2.1, y411.2.2.2.1, y411.2.2.2.2.1, y411.2.2.2.2.2.1, y411.2.2.2.2.2.2.1, y411.2.2.2.2.2.2.2.2.1, p204, p205, p206, y411.1, y411.2.2.1, y411.2.2.2.2.2.2.2.1, y411.2.2.2.2.2.2.2.2.2))
                  else
                    (f_impl_copyHome p181 p182 p183 p184 p185 p186 p187 p188).bind fun y412 =>
                    some (.inr (y412.2.1, y412.2.2.2.1, y412.2.2.2.2.1, y412.2.2.2.2.2.1, y412.2.2.2.2.2.2.1, y412.1, y412.2.2.1, y412.2.2.2.2.2.2.2))
                else
                  (f_impl_copyHome p181 p182 p183 p184 p185 p186 p187 p188).bind fun y413 =>
                  some (.inr (y413.2.1, y413.2.2.2.1, y413.2.2.2.2.1, y413.2.2.2.2.2.1, y413.2.2.2.2.2.2.1, y413.1, y413.2.2.1, y413.2.2.2.2.2.2.2))
              else
                (f_impl_copyHome p181 p182 p183 p184 p185 p186 p187 p188).bind fun y414 =>
                some (.inr (y414.2.1, y414.2.2.2.1, y414.2.2.2.2.1, y414.2.2.2.2.2.1, y414.2.2.2.2.2.2.1, y414.1, y414.2.2.1, y414.2.2.2.2.2.2.2))
            else
              (f_impl_copyHome p181 p182 p183 p184 p185 p186 p187 p188).bind fun y415 =>
              some (.inr (y415.2.1, y415.2.2.2.1, y415.2.2.2.2.1, y415.2.2.2.2.2.1, y415.2.2.2.2.2.2.1, y415.1, y415.2.2.1, y415.2.2.2.2.2.2.2))
        else
          bif (decide (p189 = (7 : Int))) then
            bif p199 then
              bif (decide (p179 = p198)) then
                bif (decide (p202 = (0 : Int))) then
                  (f_slices_Clone_int_int p192).bind fun y416 =>
                  bif (!p201) then
                    bif ((decide ((0 : Int) ≤ p198)) && (decide (p198 < (p208.length : Int)))) then
                    (some ((p208.set p198.toNat true) : List Bool)).bind fun z417 =>
                    (f_impl_keeper_give y416 (-1) z417 p199 p200 p201 p202 p209 p203 p210).bind fun y418 =>
                    some (.inl (p193, p194, p195, p196, p197, y418.2.1, y418.2.2.2.1, y418.2.2.2.2.1, y418.2.2.2.2.2.1, y418.2.2.2.2.2.2.1, y418.2.2.2.2.2.2.2.2.1, p204, p205, p206, y418.1, y418.2.2.1, y418.2.2.2.2.2.2.2.1, y418.2.2.2.2.2.2.2.2.2))
                    else none
                  else
                    (f_impl_keeper_give y416 (-1) p208 p199 p200 p201 p202 p209 p203 p210).bind fun y419 =>
                    some (.inl (p193, p194, p195, p196, p197, y419.2.1, y419.2.2.2.1, y419.2.2.2.2.1, y419.2.2.2.2.2.1, y419.2.2.2.2.2.2.1, y419.2.2.2.2.2.2.2.2.1, p204, p205, p206, y419.1, y419.2.2.1, y419.2.2.2.2.2.2.2.1, y419.2.2.2.2.2.2.2.2.2))
                else
                  (f_impl_copyHome p181 p182 p183 p184 p185 p186 p187 p188).bind fun y420 =>
                  some (.inr (y420.2.1, y420.2.2.2.1, y420.2.2.2.2.1, y420.2.2.2.2.2.1, y420.2.2.2.2.2.2.1, y420.1, y420.2.2.1, y420.2.2.2.2.2.2.2))
              else
                (f_impl_copyHome p181 p182 p183 p184 p185 p186 p187 p188).bind fun y421 =>
                some (.inr (y421.2.1, y421.2.2.2.1, y421.2.2.2.2.1, y421.2.2.2.2.2.1, y421.2.2.2.2.2.2.1, y421.1, y421.2.2.1, y421.2.2.2.2.2.2.2))
            else
              (f_impl_copyHome p181 p182 p183 p184 p185 p186 p187 p188).bind fun y422 =>
              some (.inr (y422.2.1, y422.2.2.2.1, y422.2.2.2.2.1, y422.2.2.2.2.2.1, y422.2.2.2.2.2.2.1, y422.1, y422.2.2.1, y422.2.2.2.2.2.2.2))
          else
            (f_impl_copyHome p181 p182 p183 p184 p185 p186 p187 p188).bind fun y423 =>
            some (.inr (y423.2.1, y423.2.2.2.1, y423.2.2.2.2.1, y423.2.2.2.2.2.1, y423.2.2.2.2.2.2.1, y423.1, y423.2.2.1, y423.2.2.2.2.2.2.2))
      else
        bif (decide (p189 = (7 : Int))) then
          bif p199 then
            bif (decide (p179 = p198)) then
              bif (decide (p202 = (0 : Int))) then
                (f_slices_Clone_int_int p192).bind fun y424 =>
                bif (!p201) then
                  bif ((decide ((0 : Int) ≤ p198)) && (decide (p198 < (p208.length : Int)))) then
                  (some ((p208.set p198.toNat true) : List Bool)).bind fun z425 =>
                  (f_impl_keeper_give y424 (-1) z425 p199 p200 p201 p202 p209 p203 p210).bind fun y426 =>
                  some (.inl (p193, p194, p195, p196, p197, y426.2.1, y426.2.2.2.1, y426.2.2.2.2.1, y426.2.2.2.2.2.1, y426.2.2.2.2.2.2.1, y426.2.2.2.2.2.2.2.2.1, p204, p205, p206, y426.1, y426.2.2.1, y426.2.2.2.2.2.2.2.1, y426.2.2.2.2.2.2.2.2.2))
                  else none
                else
                  (f_impl_keeper_give y424 (-1) p208 p199 p200 p201 p202 p209 p203 p210).bind fun y427 =>
                  some (.inl (p193, p194, p195, p196, p197, y427.2.1, y427.2.2.2.1, y427.2.2.2.2.1, y427.2.2.2.2.2.1, y427.2.2.2.2.2.2.1, y427.2.2.2.2.2.2.2.2.1, p204, p205, p206, y427.1, y427.2.2.1, y427.2.2.2.2.2.2.2.1, y427.2.2.2.2.2.2.2.2.2))
              else
                (f_impl_copyHome p181 p182 p183 p184 p185 p186 p187 p188).bind fun y428 =>
                some (.inr (y428.2.1, y428.2.2.2.1, y428.2.2.2.2.1, y428.2.2.2.2.2.1, y428.2.2.2.2.2.2.1, y428.1, y428.2.2.1, y428.2.2.2.2.2.2.2))
            else
              (f_impl_copyHome p181 p182 p183 p184 p185 p186 p187 p188).bind fun y429 =>
              some (.inr (y429.2.1, y429.2.2.2.1, y429.2.2.2.2.1, y429.2.2.2.2.2.1, y429.2.2.2.2.2.2.1, y429.1, y429.2.2.1, y429.2.2.2.2.2.2.2))
          else
            (f_impl_copyHome p181 p182 p183 p184 p185 p186 p187 p188).bind fun y430 =>
            some (.inr (y430.2.1, y430.2.2.2.1, y430.2.2.2.2.1, y430.2.2.2.2.2.1, y430.2.2.2.2.2.2.1, y430.1, y430.2.2.1, y430.2.2.2.2.2.2.2))
        else
          (f_impl_copyHome p181 p182 p183 p184 p185 p186 p187 p188).bind fun y431 =>
          some (.inr (y431.2.1, y431.2.2.2.1, y431.2.2.2.2.1, y431.2.2.2.2.2.1, y431.2.2.2.2.2.2.1, y431.1, y431.2.2.1, y431.2.2.2.2.2.2.2))
noncomputable def f_impl_HomeHear (x0 : List Int) (x1 : Int) (x2 : List Bool) (x3 : Bool) (x4 : Int) (x5 : Bool) (x6 : Int) (x7 : List (Int × Bool)) (x8 : Int) (x9 : Int) (x10 : Int) (x11 : Int) (x12 : Int) (x13 : Bool) (x14 : List Int) : Option (List Int × Int × List Bool × Bool × Int × Bool × Int × (List (Int × Bool)) × (List (Int × Int × Int × Bool × List Int))) :=
  (f_impl_HomeOk x0 x1 x2 x3 x4 x5 x6 x7 x8).bind fun y550 =>
  bif (!y550) then
    (f_impl_copyHome x0 x1 x2 x3 x4 x5 x6 x7).bind fun y551 =>
    some (y551.1, y551.2.1, y551.2.2.1, y551.2.2.2.1, y551.2.2.2.2.1, y551.2.2.2.2.2.1, y551.2.2.2.2.2.2.1, y551.2.2.2.2.2.2.2, [])
  else
    (f_impl_MsgOk x11 x12 x13 x14).bind fun y552 =>
    bif (!y552) then
      (f_impl_copyHome x0 x1 x2 x3 x4 x5 x6 x7).bind fun y553 =>
      some (y553.1, y553.2.1, y553.2.2.1, y553.2.2.2.1, y553.2.2.2.2.1, y553.2.2.2.2.2.1, y553.2.2.2.2.2.2.1, y553.2.2.2.2.2.2.2, [])
    else
      (f_impl_isOf x10 x8).bind fun y554 =>
      bif (!y554) then
        (f_impl_copyHome x0 x1 x2 x3 x4 x5 x6 x7).bind fun y555 =>
        some (y555.1, y555.2.1, y555.2.2.1, y555.2.2.2.1, y555.2.2.2.2.1, y555.2.2.2.2.2.1, y555.2.2.2.2.2.2.1, y555.2.2.2.2.2.2.2, [])
      else
        bif (!(decide (x9 = x12))) then
          (f_impl_copyHome x0 x1 x2 x3 x4 x5 x6 x7).bind fun y556 =>
          some (y556.1, y556.2.1, y556.2.2.1, y556.2.2.2.1, y556.2.2.2.2.1, y556.2.2.2.2.2.1, y556.2.2.2.2.2.2.1, y556.2.2.2.2.2.2.2, [])
        else
          (f_impl_copyHome x0 x1 x2 x3 x4 x5 x6 x7).bind fun y557 =>
          bif (decide (x11 = (1 : Int))) then
            (f_impl_HomeHear.j0 x10 (decide ((y557.2.2.2.2.2.2.2.length : Int) < (12 : Int))) x0 x1 x2 x3 x4 x5 x6 x7 x11 x12 x13 x14 0 false 0 false 0 y557.2.1 y557.2.2.2.1 y557.2.2.2.2.1 y557.2.2.2.2.2.1 y557.2.2.2.2.2.2.1 x9 ([] : List Int) ([] : List Bool) ([] : List (Int × Bool)) y557.1 y557.2.2.1 y557.2.2.2.2.2.2.2 ([] : List (Int × Int × Int × Bool × List Int))).bind fun r558 =>
            cs r558 (fun a559 =>
              (f_impl_HomeHear.l1 N a559.1 a559.2.1 a559.2.2.1 a559.2.2.2.1 a559.2.2.2.2.1 a559.2.2.2.2.2.1 a559.2.2.2.2.2.2.1 a559.2.2.2.2.2.2.2.1 a559.2.2.2.2.2.2.2.2.1 a559.2.2.2.2.2.2.2.2.2.1 a559.2.2.2.2.2.2.2.2.2.2.1 a559.2.2.2.2.2.2.2.2.2.2.2.1 a559.2.2.2.2.2.2.2.2.2.2.2.2.1 a559.2.2.2.2.2.2.2.2.2.2.2.2.2.1 a559.2.2.2.2.2.2.2.2.2.2.2.2.2.2.1 a559.2.2.2.2.2.2.2.2.2.2.2.2.2.2.2.1 a559.2.2.2.2.2.2.2.2.2.2.2.2.2.2.2.2.1 a559.2.2.2.2.2.2.2.2.2.2.2.2.2.2.2.2.2).bind fun r561 =>
              some (r561.2.2.2.2.2.2.2.2.2.2.2.2.2.2.1, r561.2.2.2.2.2.1, r561.2.2.2.2.2.2.2.2.2.2.2.2.2.2.2.1, r561.2.2.2.2.2.2.1, r561.2.2.2.2.2.2.2.1, r561.2.2.2.2.2.2.2.2.1, r561.2.2.2.2.2.2.2.2.2.1, r561.2.2.2.2.2.2.2.2.2.2.2.2.2.2.2.2.1, r561.2.2.2.2.2.2.2.2.2.2.2.2.2.2.2.2.2)) (fun b560 =>
              some (b560.2.2.2.2.2.1, b560.1, b560.2.2.2.2.2.2.1, b560.2.1, b560.2.2.1, b560.2.2.2.1, b560.2.2.2.2.1, b560.2.2.2.2.2.2.2, []))
          else
            bif (decide (x11 = (2 : Int))) then
              (f_impl_HomeHear.j0 x10 (decide ((y557.2.2.2.2.2.2.2.length : Int) < (12 : Int))) x0 x1 x2 x3 x4 x5 x6 x7 x11 x12 x13 x14 0 false 0 false 0 y557.2.1 y557.2.2.2.1 y557.2.2.2.2.1 y557.2.2.2.2.2.1 y557.2.2.2.2.2.2.1 x9 ([] : List Int) ([] : List Bool) ([] : List (Int × Bool)) y557.1 y557.2.2.1 y557.2.2.2.2.2.2.2 ([] : List (Int × Int × Int × Bool × List Int))).bind fun r562 =>
              cs r562 (fun a563 =>
                (f_impl_HomeHear.l1 N a563.1 a563.2.1 a563.2.2.1 a563.2.2.2.1 a563.2.2.2.2.1 a563.2.2.2.2.2.1 a563.2.2.2.2.2.2.1 a563.2.2.2.2.2.2.2.1 a563.2.2.2.2.2.2.2.2.1 a563.2.2.2.2.2.2.2.2.2.1 a563.2.2.2.2.2.2.2.2.2.2.1 a563.2.2.2.2.2.2.2.2.2.2.2.1 a563.2.2.2.2.2.2.2.2.2.2.2.2.1 a563.2.2.2.2.2.2.2.2.2.2.2.2.2.1 a563.2.2.2.2.2.2.2.2.2.2.2.2.2.2.1 a563.2.2.2.2.2.2.2.2.2.2.2.2.2.2.2.1 a563.2.2.2.2.2.2.2.2.2.2.2.2.2.2.2.2.1 a563.2.2.2.2.2.2.2.2.2.2.2.2.2.2.2.2.2).bind fun r565 =>
                some (r565.2.2.2.2.2.2.2.2.2.2.2.2.2.2.1, r565.2.2.2.2.2.1, r565.2.2.2.2.2.2.2.2.2.2.2.2.2.2.2.1, r565.2.2.2.2.2.2.1, r565.2.2.2.2.2.2.2.1, r565.2.2.2.2.2.2.2.2.1, r565.2.2.2.2.2.2.2.2.2.1, r565.2.2.2.2.2.2.2.2.2.2.2.2.2.2.2.2.1, r565.2.2.2.2.2.2.2.2.2.2.2.2.2.2.2.2.2)) (fun b564 =>
                some (b564.2.2.2.2.2.1, b564.1, b564.2.2.2.2.2.2.1, b564.2.1, b564.2.2.1, b564.2.2.2.1, b564.2.2.2.2.1, b564.2.2.2.2.2.2.2, []))
            else
              (f_impl_HomeHear.j0 x10 false x0 x1 x2 x3 x4 x5 x6 x7 x11 x12 x13 x14 0 false 0 false 0 y557.2.1 y557.2.2.2.1 y557.2.2.2.2.1 y557.2.2.2.2.2.1 y557.2.2.2.2.2.2.1 x9 ([] : List Int) ([] : List Bool) ([] : List (Int × Bool)) y557.1 y557.2.2.1 y557.2.2.2.2.2.2.2 ([] : List (Int × Int × Int × Bool × List Int))).bind fun r566 =>
              cs r566 (fun a567 =>
                (f_impl_HomeHear.l1 N a567.1 a567.2.1 a567.2.2.1 a567.2.2.2.1 a567.2.2.2.2.1 a567.2.2.2.2.2.1 a567.2.2.2.2.2.2.1 a567.2.2.2.2.2.2.2.1 a567.2.2.2.2.2.2.2.2.1 a567.2.2.2.2.2.2.2.2.2.1 a567.2.2.2.2.2.2.2.2.2.2.1 a567.2.2.2.2.2.2.2.2.2.2.2.1 a567.2.2.2.2.2.2.2.2.2.2.2.2.1 a567.2.2.2.2.2.2.2.2.2.2.2.2.2.1 a567.2.2.2.2.2.2.2.2.2.2.2.2.2.2.1 a567.2.2.2.2.2.2.2.2.2.2.2.2.2.2.2.1 a567.2.2.2.2.2.2.2.2.2.2.2.2.2.2.2.2.1 a567.2.2.2.2.2.2.2.2.2.2.2.2.2.2.2.2.2).bind fun r569 =>
                some (r569.2.2.2.2.2.2.2.2.2.2.2.2.2.2.1, r569.2.2.2.2.2.1, r569.2.2.2.2.2.2.2.2.2.2.2.2.2.2.2.1, r569.2.2.2.2.2.2.1, r569.2.2.2.2.2.2.2.1, r569.2.2.2.2.2.2.2.2.1, r569.2.2.2.2.2.2.2.2.2.1, r569.2.2.2.2.2.2.2.2.2.2.2.2.2.2.2.2.1, r569.2.2.2.2.2.2.2.2.2.2.2.2.2.2.2.2.2)) (fun b568 =>
                some (b568.2.2.2.2.2.1, b568.1, b568.2.2.2.2.2.2.1, b568.2.1, b568.2.2.1, b568.2.2.2.1, b568.2.2.2.2.1, b568.2.2.2.2.2.2.2, []))
noncomputable def C15 : Con := ⟨[(.B, true, [(.sl R1), (.int .i64), (.sl R2), .bool, (.int .i64), .bool, (.int .i64), (.sl R3)]), (.B, false, [(.int .i64)]), (.B, false, [(.int .i64)]), (.B, false, [(.int .i64)]), (.B, true, [(.int .i64), (.int .i64), .bool, (.sl R1)])], [(true, [(.sl R1), (.int .i64), (.sl R2), .bool, (.int .i64), .bool, (.int .i64), (.sl R3)]), (false, [(.sl R4)])], [(.sl R1), (.int .i64), (.sl R2), .bool, (.int .i64), .bool, (.int .i64), (.sl R3), (.int .i64), (.int .i64), (.int .i64), (.int .i64), (.int .i64), .bool, (.sl R1)], [(.sl R1), (.int .i64), (.sl R2), .bool, (.int .i64), .bool, (.int .i64), (.sl R3), (.sl R4)], fun (p : List Int × Int × List Bool × Bool × Int × Bool × Int × (List (Int × Bool)) × Int × Int × Int × Int × Int × Bool × List Int) => f_impl_HomeHear p.1 p.2.1 p.2.2.1 p.2.2.2.1 p.2.2.2.2.1 p.2.2.2.2.2.1 p.2.2.2.2.2.2.1 p.2.2.2.2.2.2.2.1 p.2.2.2.2.2.2.2.2.1 p.2.2.2.2.2.2.2.2.2.1 p.2.2.2.2.2.2.2.2.2.2.1 p.2.2.2.2.2.2.2.2.2.2.2.1 p.2.2.2.2.2.2.2.2.2.2.2.2.1 p.2.2.2.2.2.2.2.2.2.2.2.2.2.1 p.2.2.2.2.2.2.2.2.2.2.2.2.2.2⟩
noncomputable abbrev f_impl_HomeHear.j0.u := fun (p : Int × Bool × List Int × Int × List Bool × Bool × Int × Bool × Int × (List (Int × Bool)) × Int × Int × Bool × List Int × Int × Bool × Int × Bool × Int × Int × Bool × Int × Bool × Int × Int × List Int × List Bool × (List (Int × Bool)) × List Int × List Bool × (List (Int × Bool)) × (List (Int × Int × Int × Bool × List Int))) => f_impl_HomeHear.j0 p.1 p.2.1 p.2.2.1 p.2.2.2.1 p.2.2.2.2.1 p.2.2.2.2.2.1 p.2.2.2.2.2.2.1 p.2.2.2.2.2.2.2.1 p.2.2.2.2.2.2.2.2.1 p.2.2.2.2.2.2.2.2.2.1 p.2.2.2.2.2.2.2.2.2.2.1 p.2.2.2.2.2.2.2.2.2.2.2.1 p.2.2.2.2.2.2.2.2.2.2.2.2.1 p.2.2.2.2.2.2.2.2.2.2.2.2.2.1 p.2.2.2.2.2.2.2.2.2.2.2.2.2.2.1 p.2.2.2.2.2.2.2.2.2.2.2.2.2.2.2.1 p.2.2.2.2.2.2.2.2.2.2.2.2.2.2.2.2.1 p.2.2.2.2.2.2.2.2.2.2.2.2.2.2.2.2.2.1 p.2.2.2.2.2.2.2.2.2.2.2.2.2.2.2.2.2.2.1 p.2.2.2.2.2.2.2.2.2.2.2.2.2.2.2.2.2.2.2.1 p.2.2.2.2.2.2.2.2.2.2.2.2.2.2.2.2.2.2.2.2.1 p.2.2.2.2.2.2.2.2.2.2.2.2.2.2.2.2.2.2.2.2.2.1 p.2.2.2.2.2.2.2.2.2.2.2.2.2.2.2.2.2.2.2.2.2.2.1 p.2.2.2.2.2.2.2.2.2.2.2.2.2.2.2.2.2.2.2.2.2.2.2.1 p.2.2.2.2.2.2.2.2.2.2.2.2.2.2.2.2.2.2.2.2.2.2.2.2.1 p.2.2.2.2.2.2.2.2.2.2.2.2.2.2.2.2.2.2.2.2.2.2.2.2.2.1 p.2.2.2.2.2.2.2.2.2.2.2.2.2.2.2.2.2.2.2.2.2.2.2.2.2.2.1 p.2.2.2.2.2.2.2.2.2.2.2.2.2.2.2.2.2.2.2.2.2.2.2.2.2.2.2.1 p.2.2.2.2.2.2.2.2.2.2.2.2.2.2.2.2.2.2.2.2.2.2.2.2.2.2.2.2.1 p.2.2.2.2.2.2.2.2.2.2.2.2.2.2.2.2.2.2.2.2.2.2.2.2.2.2.2.2.2.1 p.2.2.2.2.2.2.2.2.2.2.2.2.2.2.2.2.2.2.2.2.2.2.2.2.2.2.2.2.2.2.1 p.2.2.2.2.2.2.2.2.2.2.2.2.2.2.2.2.2.2.2.2.2.2.2.2.2.2.2.2.2.2.2
noncomputable def f_impl_HomeHear.j0.c : LoopCon := ⟨1000, 6, [3, 5, 9, 10, 11, 12, 43], ⟨[(3, .int .i64 0), (5, .ptr 1000 0), (9, .ptr 1001 0), (10, .ptr 1002 0), (11, .nil (some R4)), (12, .ptr 1003 0), (43, .bool false)], [(1000, .box [.bor none R1 [], .int .i64 0, .bor none R2 [], .bool false, .int .i64 0, .bool false, .int .i64 0, .bor none R3 []]), (1001, .box [.int .i64 0, .int .i64 0, .bool false, .bor none R1 []]), (1002, .box [.ref 1004 [] none, .int .i64 0, .ref 1005 [] none, .bool false, .int .i64 0, .bool false, .int .i64 0, .ref 1006 [] none]), (1003, .box [.ref 1007 [] none, .int .i64 0, .ref 1008 [] none, .bool false, .int .i64 0, .bool false, .int .i64 0, .ref 1009 [] none, .int .i64 0, .ref 1010 [] none]), (1004, .row R1 []), (1005, .row R2 []), (1006, .row R3 []), (1007, .row R1 []), (1008, .row R2 []), (1009, .row R3 []), (1010, .row R4 [])], 1011⟩, [(.int .i64), .bool, (.sl R1), (.int .i64), (.sl R2), .bool, (.int .i64), .bool, (.int .i64), (.sl R3), (.int .i64), (.int .i64), .bool, (.sl R1), (.int .i64), .bool, (.int .i64), .bool, (.int .i64), (.int .i64), .bool, (.int .i64), .bool, (.int .i64), (.int .i64), (.sl R1), (.sl R2), (.sl R3), (.sl R1), (.sl R2), (.sl R3), (.sl R4)], [⟨.normal, [10, 11, 12], ⟨[(10, .ptr 1000 0), (11, .nil (some R4)), (12, .ptr 1001 0)], [(1000, .box [.ref 1002 [] none, .int .i64 0, .ref 1003 [] none, .bool false, .int .i64 0, .bool false, .int .i64 0, .ref 1004 [] none]), (1001, .box [.ref 1005 [] none, .int .i64 0, .ref 1006 [] none, .bool false, .int .i64 0, .bool false, .int .i64 0, .ref 1007 [] none, .int .i64 0, .ref 1008 [] none]), (1002, .row R1 []), (1003, .row R2 []), (1004, .row R3 []), (1005, .row R1 []), (1006, .row R2 []), (1007, .row R3 []), (1008, .row R4 [])], 1009⟩, [(.int .i64), .bool, (.int .i64), .bool, (.int .i64), (.int .i64), .bool, (.int .i64), .bool, (.int .i64), (.int .i64), (.sl R1), (.sl R2), (.sl R3), (.sl R1), (.sl R2), (.sl R3), (.sl R4)]⟩, ⟨.ret, [10, 11], ⟨[(10, .ptr 1000 0), (11, .nil (some R4))], [(1000, .box [.ref 1001 [] none, .int .i64 0, .ref 1002 [] none, .bool false, .int .i64 0, .bool false, .int .i64 0, .ref 1003 [] none]), (1001, .row R1 []), (1002, .row R2 []), (1003, .row R3 [])], 1004⟩, [(.int .i64), .bool, (.int .i64), .bool, (.int .i64), (.sl R1), (.sl R2), (.sl R3)]⟩], f_impl_HomeHear.j0.u⟩
noncomputable abbrev f_impl_HomeHear.l1.u (n : Nat) := fun (p : Int × Bool × Int × Bool × Int × Int × Bool × Int × Bool × Int × Int × List Int × List Bool × (List (Int × Bool)) × List Int × List Bool × (List (Int × Bool)) × (List (Int × Int × Int × Bool × List Int))) => f_impl_HomeHear.l1 n p.1 p.2.1 p.2.2.1 p.2.2.2.1 p.2.2.2.2.1 p.2.2.2.2.2.1 p.2.2.2.2.2.2.1 p.2.2.2.2.2.2.2.1 p.2.2.2.2.2.2.2.2.1 p.2.2.2.2.2.2.2.2.2.1 p.2.2.2.2.2.2.2.2.2.2.1 p.2.2.2.2.2.2.2.2.2.2.2.1 p.2.2.2.2.2.2.2.2.2.2.2.2.1 p.2.2.2.2.2.2.2.2.2.2.2.2.2.1 p.2.2.2.2.2.2.2.2.2.2.2.2.2.2.1 p.2.2.2.2.2.2.2.2.2.2.2.2.2.2.2.1 p.2.2.2.2.2.2.2.2.2.2.2.2.2.2.2.2.1 p.2.2.2.2.2.2.2.2.2.2.2.2.2.2.2.2.2
noncomputable def f_impl_HomeHear.l1.c : LoopCon := ⟨1000, 6, [10, 11, 12], ⟨[(10, .ptr 1000 0), (11, .nil (some R4)), (12, .ptr 1001 0)], [(1000, .box [.ref 1002 [] none, .int .i64 0, .ref 1003 [] none, .bool false, .int .i64 0, .bool false, .int .i64 0, .ref 1004 [] none]), (1001, .box [.ref 1005 [] none, .int .i64 0, .ref 1006 [] none, .bool false, .int .i64 0, .bool false, .int .i64 0, .ref 1007 [] none, .int .i64 0, .ref 1008 [] none]), (1002, .row R1 []), (1003, .row R2 []), (1004, .row R3 []), (1005, .row R1 []), (1006, .row R2 []), (1007, .row R3 []), (1008, .row R4 [])], 1009⟩, [(.int .i64), .bool, (.int .i64), .bool, (.int .i64), (.int .i64), .bool, (.int .i64), .bool, (.int .i64), (.int .i64), (.sl R1), (.sl R2), (.sl R3), (.sl R1), (.sl R2), (.sl R3), (.sl R4)], [⟨.exit 1, [10, 11, 12], ⟨[(10, .ptr 1000 0), (11, .nil (some R4)), (12, .ptr 1001 0)], [(1000, .box [.ref 1002 [] none, .int .i64 0, .ref 1003 [] none, .bool false, .int .i64 0, .bool false, .int .i64 0, .ref 1004 [] none]), (1001, .box [.ref 1005 [] none, .int .i64 0, .ref 1006 [] none, .bool false, .int .i64 0, .bool false, .int .i64 0, .ref 1007 [] none, .int .i64 0, .ref 1008 [] none]), (1002, .row R1 []), (1003, .row R2 []), (1004, .row R3 []), (1005, .row R1 []), (1006, .row R2 []), (1007, .row R3 []), (1008, .row R4 [])], 1009⟩, [(.int .i64), .bool, (.int .i64), .bool, (.int .i64), (.int .i64), .bool, (.int .i64), .bool, (.int .i64), (.int .i64), (.sl R1), (.sl R2), (.sl R3), (.sl R1), (.sl R2), (.sl R3), (.sl R4)]⟩], f_impl_HomeHear.l1.u N⟩
noncomputable abbrev K15 : Cons := [(37, C37), (47, C47), (48, C48), (49, C49), (50, C50), (51, C51), (52, C52)]
noncomputable abbrev L15 : List (Nat × Loops) := [(15, [(1000006, f_impl_HomeHear.j0.c), (17, f_impl_HomeHear.l1.c)])]
abbrev Q15 : List (Nat × List (Int × Nat) × Nat) := []
noncomputable abbrev X15 : Nat → Ctx := ctxOf tb K15 L15 Q15
theorem f_impl_HomeHear.j0.ok : ∀ p, f_impl_HomeHear.j0.u p = iterD (roundOf fs X15 6 15 1000006 false f_impl_HomeHear.j0.c) 1 p := fun p => by kernel_rfl
theorem f_impl_HomeHear.l1.ok : ∀ n p, f_impl_HomeHear.l1.u n p = iterD (roundOf fs X15 6 15 17 false f_impl_HomeHear.l1.c) n p :=
  iter_of (l := f_impl_HomeHear.l1.u) (fun _ => rfl) (fun n p => by kernel_rfl)
theorem E15 : ∀ x, funRun fs X15 6 15 C15 x = C15.fn x := fun x => by kernel_rfl
theorem B15 : ConB Try.prog 15 C15 := ConB.make FS MIX TY (cons := K15) (L := L15) (ptrs := Q15) ⟨S37, S47, S48, S49, S50, S51, S52, trivial⟩ trivial ⟨⟨⟨1, fun p => f_impl_HomeHear.j0.ok p⟩, ⟨N, fun p => f_impl_HomeHear.l1.ok N p⟩, trivial⟩, trivial⟩ rfl rfl E15
theorem S15 : ConS Try.prog 15 C15 := B15.call rfl
/-! spec.l1In: function 54 -/
noncomputable def f_spec_l1In (x0 : Int) (x1 : Int) (x2 : Int) : Option (Bool) :=
  bif (decide (x1 ≤ x0)) then
    some (decide (x0 ≤ x2))
  else
    some false
noncomputable def C54 : Con := ⟨[(.B, false, [(.int .i64)]), (.B, false, [(.int .i64)]), (.B, false, [(.int .i64)])], [(false, [.bool])], [(.int .i64), (.int .i64), (.int .i64)], [.bool], fun (p : Int × Int × Int) => f_spec_l1In p.1 p.2.1 p.2.2⟩
noncomputable abbrev K54 : Cons := []
noncomputable abbrev L54 : List (Nat × Loops) := []
abbrev Q54 : List (Nat × List (Int × Nat) × Nat) := []
noncomputable abbrev X54 : Nat → Ctx := ctxOf tb K54 L54 Q54
theorem E54 : ∀ x, funRun fs X54 6 54 C54 x = C54.fn x := fun x => by kernel_rfl
theorem B54 : ConB Try.prog 54 C54 := ConB.make FS MIX TY (cons := K54) (L := L54) (ptrs := Q54) trivial trivial trivial rfl rfl E54
theorem S54 : ConS Try.prog 54 C54 := B54.call rfl
/-! spec.l1Words: function 86 -/
noncomputable def f_spec_l1Words.l0 : Nat → (List Int) → Int → Bool → Int → Option ((Bool) ⊕ (List Int × Int × Bool))
  | 0, _, _, _, _ => none
  | n + 1, p570, p571, p572, p573 =>
    bif (decide (p573 < (p570.length : Int))) then
      bif ((decide ((0 : Int) ≤ p573)) && (decide (p573 < (p570.length : Int)))) then
      (f_spec_l1In (p570.getD p573.toNat 0) 0 65535).bind fun y574 =>
      bif (!y574) then
        some (.inl false)
      else
        f_spec_l1Words.l0 n p570 p571 p572 (IntKind.wrap .i64 (p573 + (1 : Int)))
      else none
    else
      some (.inr (p570, p571, p572))
noncomputable def f_spec_l1Words (x0 : List Int) (x1 : Int) : Option (Bool) :=
  (f_spec_l1Words.l0 N x0 x1 false 0).bind fun r575 =>
  cs r575 (fun a576 =>
    some a576) (fun b577 =>
    some (decide ((b577.1.length : Int) = b577.2.1)))
noncomputable def C86 : Con := ⟨[(.B, false, [(.sl R1)]), (.B, false, [(.int .i64)])], [(false, [.bool])], [(.sl R1), (.int .i64)], [.bool], fun (p : List Int × Int) => f_spec_l1Words p.1 p.2⟩
noncomputable abbrev f_spec_l1Words.l0.u (n : Nat) := fun (p : List Int × Int × Bool × Int) => f_spec_l1Words.l0 n p.1 p.2.1 p.2.2.1 p.2.2.2
noncomputable def f_spec_l1Words.l0.c : LoopCon := ⟨1000, 6, [0, 1, 4, 5], ⟨[(0, .bor none R1 []), (1, .int .i64 0), (4, .bool false), (5, .int .i64 0)], [], 1000⟩, [(.sl R1), (.int .i64), .bool, (.int .i64)], [⟨.ret, [4], ⟨[(4, .bool false)], [], 1000⟩, [.bool]⟩, ⟨.exit 0, [0, 1, 4], ⟨[(0, .bor none R1 []), (1, .int .i64 0), (4, .bool false)], [], 1000⟩, [(.sl R1), (.int .i64), .bool]⟩], f_spec_l1Words.l0.u N⟩
noncomputable abbrev K86 : Cons := [(54, C54)]
noncomputable abbrev L86 : List (Nat × Loops) := [(86, [(2, f_spec_l1Words.l0.c)])]
abbrev Q86 : List (Nat × List (Int × Nat) × Nat) := []
noncomputable abbrev X86 : Nat → Ctx := ctxOf tb K86 L86 Q86
theorem f_spec_l1Words.l0.ok : ∀ n p, f_spec_l1Words.l0.u n p = iterD (roundOf fs X86 6 86 2 false f_spec_l1Words.l0.c) n p :=
  iter_of (l := f_spec_l1Words.l0.u) (fun _ => rfl) (fun n p => by kernel_rfl)
theorem E86 : ∀ x, funRun fs X86 6 86 C86 x = C86.fn x := fun x => by kernel_rfl
theorem B86 : ConB Try.prog 86 C86 := ConB.make FS MIX TY (cons := K86) (L := L86) (ptrs := Q86) ⟨S54, trivial⟩ trivial ⟨⟨⟨N, fun p => f_spec_l1Words.l0.ok N p⟩, trivial⟩, trivial⟩ rfl rfl E86
theorem S86 : ConS Try.prog 86 C86 := B86.call rfl
/-! spec.HomeOk: function 53 -/
noncomputable def f_spec_HomeOk.l0 : Nat → Int → Bool → Int → (List Int) → Int → (List Bool) → Bool → Int → Bool → Int → (List (Int × Bool)) → Option ((Bool) ⊕ (Bool))
  | 0, _, _, _, _, _, _, _, _, _, _, _ => none
  | n + 1, p583, p584, p585, p586, p587, p588, p589, p590, p591, p592, p593 =>
    bif (decide (p585 < (p593.length : Int))) then
      bif ((decide ((0 : Int) ≤ p585)) && (decide (p585 < (p593.length : Int)))) then
      (f_spec_l1In ((p593.getD p585.toNat (0, false)).1) 0 (IntKind.wrap .i64 (p583 - (1 : Int)))).bind fun y594 =>
      bif (!y594) then
        some (.inl false)
      else
        f_spec_HomeOk.l0 n p583 p584 (IntKind.wrap .i64 (p585 + (1 : Int))) p586 p587 p588 p589 p590 p591 p592 p593
      else none
    else
      some (.inr p584)
noncomputable def f_spec_HomeOk (x0 : List Int) (x1 : Int) (x2 : List Bool) (x3 : Bool) (x4 : Int) (x5 : Bool) (x6 : Int) (x7 : List (Int × Bool)) (x8 : Int) : Option (Bool) :=
  (f_spec_l1In x8 1 4).bind fun y578 =>
  bif (!y578) then
    some false
  else
    (f_spec_l1Words x0 4).bind fun y579 =>
    bif (!y579) then
      some false
    else
      (f_spec_l1In x1 (-1) (IntKind.wrap .i64 (x8 - (1 : Int)))).bind fun y580 =>
      bif (!y580) then
        some false
      else
        bif (!(decide ((x2.length : Int) = x8))) then
          some false
        else
          (f_spec_l1In x4 0 (IntKind.wrap .i64 (x8 - (1 : Int)))).bind fun y581 =>
          bif (!y581) then
            some false
          else
            (f_spec_l1In x6 0 x8).bind fun y582 =>
            bif (!y582) then
              some false
            else
              bif (decide ((12 : Int) < (x7.length : Int))) then
                some false
              else
                (f_spec_HomeOk.l0 N x8 false 0 x0 x1 x2 x3 x4 x5 x6 x7).bind fun r595 =>
                cs r595 (fun a596 =>
                  some a596) (fun b597 =>
                  some true)
noncomputable def C53 : Con := ⟨[(.B, true, [(.sl R1), (.int .i64), (.sl R2), .bool, (.int .i64), .bool, (.int .i64), (.sl R3)]), (.B, false, [(.int .i64)])], [(false, [.bool])], [(.sl R1), (.int .i64), (.sl R2), .bool, (.int .i64), .bool, (.int .i64), (.sl R3), (.int .i64)], [.bool], fun (p : List Int × Int × List Bool × Bool × Int × Bool × Int × (List (Int × Bool)) × Int) => f_spec_HomeOk p.1 p.2.1 p.2.2.1 p.2.2.2.1 p.2.2.2.2.1 p.2.2.2.2.2.1 p.2.2.2.2.2.2.1 p.2.2.2.2.2.2.2.1 p.2.2.2.2.2.2.2.2⟩
noncomputable abbrev f_spec_HomeOk.l0.u (n : Nat) := fun (p : Int × Bool × Int × List Int × Int × List Bool × Bool × Int × Bool × Int × (List (Int × Bool))) => f_spec_HomeOk.l0 n p.1 p.2.1 p.2.2.1 p.2.2.2.1 p.2.2.2.2.1 p.2.2.2.2.2.1 p.2.2.2.2.2.2.1 p.2.2.2.2.2.2.2.1 p.2.2.2.2.2.2.2.2.1 p.2.2.2.2.2.2.2.2.2.1 p.2.2.2.2.2.2.2.2.2.2
noncomputable def f_spec_HomeOk.l0.c : LoopCon := ⟨1000, 6, [1, 2, 4, 5], ⟨[(1, .int .i64 0), (2, .ptr 1000 0), (4, .bool false), (5, .int .i64 0)], [(1000, .box [.bor none R1 [], .int .i64 0, .bor none R2 [], .bool false, .int .i64 0, .bool false, .int .i64 0, .bor none R3 []])], 1001⟩, [(.int .i64), .bool, (.int .i64), (.sl R1), (.int .i64), (.sl R2), .bool, (.int .i64), .bool, (.int .i64), (.sl R3)], [⟨.ret, [4], ⟨[(4, .bool false)], [], 1000⟩, [.bool]⟩, ⟨.exit 0, [4], ⟨[(4, .bool false)], [], 1000⟩, [.bool]⟩], f_spec_HomeOk.l0.u N⟩
noncomputable abbrev K53 : Cons := [(54, C54), (86, C86)]
noncomputable abbrev L53 : List (Nat × Loops) := [(53, [(4, f_spec_HomeOk.l0.c)])]
abbrev Q53 : List (Nat × List (Int × Nat) × Nat) := []
noncomputable abbrev X53 : Nat → Ctx := ctxOf tb K53 L53 Q53
theorem f_spec_HomeOk.l0.ok : ∀ n p, f_spec_HomeOk.l0.u n p = iterD (roundOf fs X53 6 53 4 false f_spec_HomeOk.l0.c) n p :=
  iter_of (l := f_spec_HomeOk.l0.u) (fun _ => rfl) (fun n p => by kernel_rfl)
theorem E53 : ∀ x, funRun fs X53 6 53 C53 x = C53.fn x := fun x => by kernel_rfl
theorem B53 : ConB Try.prog 53 C53 := ConB.make FS MIX TY (cons := K53) (L := L53) (ptrs := Q53) ⟨S54, S86, trivial⟩ trivial ⟨⟨⟨N, fun p => f_spec_HomeOk.l0.ok N p⟩, trivial⟩, trivial⟩ rfl rfl E53
theorem S53 : ConS Try.prog 53 C53 := B53.call rfl
/-! spec.MsgOk: function 41 -/
noncomputable def f_spec_MsgOk (x0 : Int) (x1 : Int) (x2 : Bool) (x3 : List Int) : Option (Bool) :=
  bif (decide (x0 = (3 : Int))) then
    bif (decide (x0 = (3 : Int))) then
      (f_spec_l1In x0 1 7).bind fun y598 =>
      bif y598 then
        (f_spec_l1In x1 0 5).bind fun y599 =>
        bif y599 then
          (f_spec_l1Words x3 4).bind fun y600 =>
          some y600
        else
          some false
      else
        some false
    else
      (f_spec_l1In x0 1 7).bind fun y601 =>
      bif y601 then
        (f_spec_l1In x1 0 5).bind fun y602 =>
        bif y602 then
          bif (decide (x0 = (6 : Int))) then
            (f_spec_l1Words x3 4).bind fun y603 =>
            some y603
          else
            bif (!x2) then
              (f_spec_l1Words x3 4).bind fun y604 =>
              some y604
            else
              some false
        else
          some false
      else
        some false
  else
    bif (decide (x0 = (7 : Int))) then
      bif (decide (x0 = (3 : Int))) then
        (f_spec_l1In x0 1 7).bind fun y605 =>
        bif y605 then
          (f_spec_l1In x1 0 5).bind fun y606 =>
          bif y606 then
            (f_spec_l1Words x3 4).bind fun y607 =>
            some y607
          else
            some false
        else
          some false
      else
        (f_spec_l1In x0 1 7).bind fun y608 =>
        bif y608 then
          (f_spec_l1In x1 0 5).bind fun y609 =>
          bif y609 then
            bif (decide (x0 = (6 : Int))) then
              (f_spec_l1Words x3 4).bind fun y610 =>
              some y610
            else
              bif (!x2) then
                (f_spec_l1Words x3 4).bind fun y611 =>
                some y611
              else
                some false
          else
            some false
        else
          some false
    else
      bif (decide (x0 = (3 : Int))) then
        (f_spec_l1In x0 1 7).bind fun y612 =>
        bif y612 then
          (f_spec_l1In x1 0 5).bind fun y613 =>
          bif y613 then
            (f_spec_l1Words x3 0).bind fun y614 =>
            some y614
          else
            some false
        else
          some false
      else
        (f_spec_l1In x0 1 7).bind fun y615 =>
        bif y615 then
          (f_spec_l1In x1 0 5).bind fun y616 =>
          bif y616 then
            bif (decide (x0 = (6 : Int))) then
              (f_spec_l1Words x3 0).bind fun y617 =>
              some y617
            else
              bif (!x2) then
                (f_spec_l1Words x3 0).bind fun y618 =>
                some y618
              else
                some false
          else
            some false
        else
          some false
noncomputable def C41 : Con := ⟨[(.B, true, [(.int .i64), (.int .i64), .bool, (.sl R1)])], [(false, [.bool])], [(.int .i64), (.int .i64), .bool, (.sl R1)], [.bool], fun (p : Int × Int × Bool × List Int) => f_spec_MsgOk p.1 p.2.1 p.2.2.1 p.2.2.2⟩
noncomputable abbrev K41 : Cons := [(54, C54), (86, C86)]
noncomputable abbrev L41 : List (Nat × Loops) := []
abbrev Q41 : List (Nat × List (Int × Nat) × Nat) := []
noncomputable abbrev X41 : Nat → Ctx := ctxOf tb K41 L41 Q41
theorem E41 : ∀ x, funRun fs X41 6 41 C41 x = C41.fn x := fun x => by kernel_rfl
theorem B41 : ConB Try.prog 41 C41 := ConB.make FS MIX TY (cons := K41) (L := L41) (ptrs := Q41) ⟨S54, S86, trivial⟩ trivial trivial rfl rfl E41
theorem S41 : ConS Try.prog 41 C41 := B41.call rfl
/-! spec.l4Copy: function 55 -/
noncomputable def f_spec_l4Copy (x0 : List Int) (x1 : Int) (x2 : List Bool) (x3 : Bool) (x4 : Int) (x5 : Bool) (x6 : Int) (x7 : List (Int × Bool)) : Option (List Int × Int × List Bool × Bool × Int × Bool × Int × (List (Int × Bool))) :=
  bif (Nat.blt (([] : List Int).length + x0.length) 17592186044416) then
  (some ((([] : List Int) ++ x0) : List Int)).bind fun z619 =>
  bif (Nat.blt (([] : List Bool).length + x2.length) 140737488355328) then
  (some ((([] : List Bool) ++ x2) : List Bool)).bind fun z620 =>
  bif (Nat.blt (([] : List (Int × Bool)).length + x7.length) 8796093022208) then
  (some ((([] : List (Int × Bool)) ++ x7) : List (Int × Bool))).bind fun z621 =>
  some (z619, x1, z620, x3, x4, x5, x6, z621)
  else none
  else none
  else none
noncomputable def C55 : Con := ⟨[(.B, true, [(.sl R1), (.int .i64), (.sl R2), .bool, (.int .i64), .bool, (.int .i64), (.sl R3)])], [(true, [(.sl R1), (.int .i64), (.sl R2), .bool, (.int .i64), .bool, (.int .i64), (.sl R3)])], [(.sl R1), (.int .i64), (.sl R2), .bool, (.int .i64), .bool, (.int .i64), (.sl R3)], [(.sl R1), (.int .i64), (.sl R2), .bool, (.int .i64), .bool, (.int .i64), (.sl R3)], fun (p : List Int × Int × List Bool × Bool × Int × Bool × Int × (List (Int × Bool))) => f_spec_l4Copy p.1 p.2.1 p.2.2.1 p.2.2.2.1 p.2.2.2.2.1 p.2.2.2.2.2.1 p.2.2.2.2.2.2.1 p.2.2.2.2.2.2.2⟩
noncomputable abbrev K55 : Cons := []
noncomputable abbrev L55 : List (Nat × Loops) := []
abbrev Q55 : List (Nat × List (Int × Nat) × Nat) := []
noncomputable abbrev X55 : Nat → Ctx := ctxOf tb K55 L55 Q55
theorem E55 : ∀ x, funRun fs X55 6 55 C55 x = C55.fn x := fun x => by kernel_rfl
theorem B55 : ConB Try.prog 55 C55 := ConB.make FS MIX TY (cons := K55) (L := L55) (ptrs := Q55) trivial trivial trivial rfl rfl E55
theorem S55 : ConS Try.prog 55 C55 := B55.call rfl
/-! spec.l4Tell: function 93 -/
noncomputable def f_spec_l4Tell (x0 : List Int) (x1 : Int) (x2 : List Bool) (x3 : Bool) (x4 : Int) (x5 : Bool) (x6 : Int) (x7 : List (Int × Bool)) (x8 : Int) (x9 : List (Int × Int × Int × Bool × List Int)) (x10 : Int) (x11 : Int) (x12 : Int) (x13 : Bool) (x14 : List Int) : Option (List Int × Int × List Bool × Bool × Int × Bool × Int × (List (Int × Bool)) × Int × (List (Int × Int × Int × Bool × List Int))) :=
  bif (Nat.blt (x9.length + ([(x10, x11, x8, x13, x14)] : List (Int × Int × Int × Bool × List Int)).length) 2513169434916) then
  (some ((x9 ++ ([(x10, x11, x8, x13, x14)] : List (Int × Int × Int × Bool × List Int))) : List (Int × Int × Int × Bool × List Int))).bind fun z622 =>
  some (x0, x1, x2, x3, x4, x5, x6, x7, x8, z622)
  else none
noncomputable def C93 : Con := ⟨[(.P [true, true, true, true, true, true, true, true, true, true], false, [(.sl R1), (.int .i64), (.sl R2), .bool, (.int .i64), .bool, (.int .i64), (.sl R3), (.int .i64), (.sl R4)]), (.B, false, [(.int .i64)]), (.M, true, [(.int .i64), (.int .i64), .bool, (.sl R1)])], [], [(.sl R1), (.int .i64), (.sl R2), .bool, (.int .i64), .bool, (.int .i64), (.sl R3), (.int .i64), (.sl R4), (.int .i64), (.int .i64), (.int .i64), .bool, (.sl R1)], [(.sl R1), (.int .i64), (.sl R2), .bool, (.int .i64), .bool, (.int .i64), (.sl R3), (.int .i64), (.sl R4)], fun (p : List Int × Int × List Bool × Bool × Int × Bool × Int × (List (Int × Bool)) × Int × (List (Int × Int × Int × Bool × List Int)) × Int × Int × Int × Bool × List Int) => f_spec_l4Tell p.1 p.2.1 p.2.2.1 p.2.2.2.1 p.2.2.2.2.1 p.2.2.2.2.2.1 p.2.2.2.2.2.2.1 p.2.2.2.2.2.2.2.1 p.2.2.2.2.2.2.2.2.1 p.2.2.2.2.2.2.2.2.2.1 p.2.2.2.2.2.2.2.2.2.2.1 p.2.2.2.2.2.2.2.2.2.2.2.1 p.2.2.2.2.2.2.2.2.2.2.2.2.1 p.2.2.2.2.2.2.2.2.2.2.2.2.2.1 p.2.2.2.2.2.2.2.2.2.2.2.2.2.2⟩
noncomputable abbrev K93 : Cons := []
noncomputable abbrev L93 : List (Nat × Loops) := []
abbrev Q93 : List (Nat × List (Int × Nat) × Nat) := []
noncomputable abbrev X93 : Nat → Ctx := ctxOf tb K93 L93 Q93
theorem E93 : ∀ x, funG fs X93 6 93 C93 x = C93.fn x := fun x => by kernel_rfl
theorem B93 : ConG Try.prog 93 C93 := ConG.make FS MIX TY (cons := K93) (L := L93) (ptrs := Q93) trivial trivial trivial rfl (by kernel_rfl) E93
theorem S93 : ConS Try.prog 93 C93 := B93.call (by kernel_rfl)
/-! spec.l4Give: function 92 -/
noncomputable def f_spec_l4Give (x0 : List Int) (x1 : Int) (x2 : List Bool) (x3 : Bool) (x4 : Int) (x5 : Bool) (x6 : Int) (x7 : List (Int × Bool)) (x8 : Int) (x9 : List (Int × Int × Int × Bool × List Int)) : Option (List Int × Int × List Bool × Bool × Int × Bool × Int × (List (Int × Bool)) × Int × (List (Int × Int × Int × Bool × List Int))) :=
  bif (Nat.blt (([] : List Int).length + x0.length) 17592186044416) then
  (some ((([] : List Int) ++ x0) : List Int)).bind fun z623 =>
  (f_spec_l4Tell x0 x1 x2 x3 x4 x5 x6 x7 x8 x9 x4 3 0 x5 z623).bind fun y624 =>
  bif ((decide ((0 : Int) ≤ x4)) && (decide (x4 < (y624.2.2.1.length : Int)))) then
  (some ((y624.2.2.1.set x4.toNat (!x5)) : List Bool)).bind fun z625 =>
  bif x5 then
    some (y624.1, x4, z625, false, 0, false, y624.2.2.2.2.2.2.1, y624.2.2.2.2.2.2.2.1, y624.2.2.2.2.2.2.2.2.1, y624.2.2.2.2.2.2.2.2.2)
  else
    some (y624.1, y624.2.1, z625, false, 0, false, y624.2.2.2.2.2.2.1, y624.2.2.2.2.2.2.2.1, y624.2.2.2.2.2.2.2.2.1, y624.2.2.2.2.2.2.2.2.2)
  else none
  else none
noncomputable def C92 : Con := ⟨[(.P [true, true, true, true, true, true, true, true, true, true], false, [(.sl R1), (.int .i64), (.sl R2), .bool, (.int .i64), .bool, (.int .i64), (.sl R3), (.int .i64), (.sl R4)])], [], [(.sl R1), (.int .i64), (.sl R2), .bool, (.int .i64), .bool, (.int .i64), (.sl R3), (.int .i64), (.sl R4)], [(.sl R1), (.int .i64), (.sl R2), .bool, (.int .i64), .bool, (.int .i64), (.sl R3), (.int .i64), (.sl R4)], fun (p : List Int × Int × List Bool × Bool × Int × Bool × Int × (List (Int × Bool)) × Int × (List (Int × Int × Int × Bool × List Int))) => f_spec_l4Give p.1 p.2.1 p.2.2.1 p.2.2.2.1 p.2.2.2.2.1 p.2.2.2.2.2.1 p.2.2.2.2.2.2.1 p.2.2.2.2.2.2.2.1 p.2.2.2.2.2.2.2.2.1 p.2.2.2.2.2.2.2.2.2⟩
noncomputable abbrev K92 : Cons := [(93, C93)]
noncomputable abbrev L92 : List (Nat × Loops) := []
abbrev Q92 : List (Nat × List (Int × Nat) × Nat) := []
noncomputable abbrev X92 : Nat → Ctx := ctxOf tb K92 L92 Q92
theorem E92 : ∀ x, funG fs X92 6 92 C92 x = C92.fn x := fun x => by kernel_rfl
theorem B92 : ConG Try.prog 92 C92 := ConG.make FS MIX TY (cons := K92) (L := L92) (ptrs := Q92) ⟨S93, trivial⟩ trivial trivial rfl (by kernel_rfl) E92
theorem S92 : ConS Try.prog 92 C92 := B92.call (by kernel_rfl)
/-! spec.l4Hear: function 56 -/
noncomputable def f_spec_l4Hear (x0 : List Int) (x1 : Int) (x2 : List Bool) (x3 : Bool) (x4 : Int) (x5 : Bool) (x6 : Int) (x7 : List (Int × Bool)) (x8 : Int) (x9 : List (Int × Int × Int × Bool × List Int)) (x10 : Int) (x11 : Int) (x12 : Int) (x13 : Bool) (x14 : List Int) : Option (Bool × List Int × Int × List Bool × Bool × Int × Bool × Int × (List (Int × Bool)) × Int × (List (Int × Int × Int × Bool × List Int))) :=
  bif (decide (x11 = (1 : Int))) then
    bif (decide ((x7.length : Int) = (12 : Int))) then
      some (false, x0, x1, x2, x3, x4, x5, x6, x7, x8, x9)
    else
      bif (Nat.blt (x7.length + ([(x10, (decide (x11 = (2 : Int))))] : List (Int × Bool)).length) 8796093022208) then
      (some ((x7 ++ ([(x10, (decide (x11 = (2 : Int))))] : List (Int × Bool))) : List (Int × Bool))).bind fun z626 =>
      some (true, x0, x1, x2, x3, x4, x5, x6, z626, x8, x9)
      else none
  else
    bif (decide (x11 = (2 : Int))) then
      bif (decide ((x7.length : Int) = (12 : Int))) then
        some (false, x0, x1, x2, x3, x4, x5, x6, x7, x8, x9)
      else
        bif (Nat.blt (x7.length + ([(x10, (decide (x11 = (2 : Int))))] : List (Int × Bool)).length) 8796093022208) then
        (some ((x7 ++ ([(x10, (decide (x11 = (2 : Int))))] : List (Int × Bool))) : List (Int × Bool))).bind fun z627 =>
        some (true, x0, x1, x2, x3, x4, x5, x6, z627, x8, x9)
        else none
    else
      bif (decide (x11 = (5 : Int))) then
        bif (!x3) then
          some (false, x0, x1, x2, x3, x4, x5, x6, x7, x8, x9)
        else
          bif (decide (x6 = (0 : Int))) then
            some (false, x0, x1, x2, x3, x4, x5, x6, x7, x8, x9)
          else
            bif (decide ((IntKind.wrap .i64 (x6 - (1 : Int))) = (0 : Int))) then
              (f_spec_l4Give x0 x1 x2 x3 x4 x5 (IntKind.wrap .i64 (x6 - (1 : Int))) x7 x8 x9).bind fun y628 =>
              some (true, y628.1, y628.2.1, y628.2.2.1, y628.2.2.2.1, y628.2.2.2.2.1, y628.2.2.2.2.2.1, y628.2.2.2.2.2.2.1, y628.2.2.2.2.2.2.2.1, y628.2.2.2.2.2.2.2.2.1, y628.2.2.2.2.2.2.2.2.2)
            else
              some (true, x0, x1, x2, x3, x4, x5, (IntKind.wrap .i64 (x6 - (1 : Int))), x7, x8, x9)
      else
        bif (decide (x11 = (7 : Int))) then
          bif (!x3) then
            some (false, x0, x1, x2, x3, x4, x5, x6, x7, x8, x9)
          else
            bif (decide ((0 : Int) < x6)) then
              some (false, x0, x1, x2, x3, x4, x5, x6, x7, x8, x9)
            else
              bif (!(decide (x10 = x1))) then
                some (false, x0, x1, x2, x3, x4, x5, x6, x7, x8, x9)
              else
                bif (Nat.blt (([] : List Int).length + x14.length) 17592186044416) then
                (some ((([] : List Int) ++ x14) : List Int)).bind fun z629 =>
                bif ((decide ((0 : Int) ≤ x10)) && (decide (x10 < (x2.length : Int)))) then
                (some ((x2.set x10.toNat (!x5)) : List Bool)).bind fun z630 =>
                (f_spec_l4Give z629 (-1) z630 x3 x4 x5 x6 x7 x8 x9).bind fun y631 =>
                some (true, y631.1, y631.2.1, y631.2.2.1, y631.2.2.2.1, y631.2.2.2.2.1, y631.2.2.2.2.2.1, y631.2.2.2.2.2.2.1, y631.2.2.2.2.2.2.2.1, y631.2.2.2.2.2.2.2.2.1, y631.2.2.2.2.2.2.2.2.2)
                else none
                else none
        else
          some (false, x0, x1, x2, x3, x4, x5, x6, x7, x8, x9)
noncomputable def C56 : Con := ⟨[(.P [true, true, true, true, true, true, true, true, true, true], false, [(.sl R1), (.int .i64), (.sl R2), .bool, (.int .i64), .bool, (.int .i64), (.sl R3), (.int .i64), (.sl R4)]), (.B, false, [(.int .i64)]), (.B, true, [(.int .i64), (.int .i64), .bool, (.sl R1)])], [(false, [.bool])], [(.sl R1), (.int .i64), (.sl R2), .bool, (.int .i64), .bool, (.int .i64), (.sl R3), (.int .i64), (.sl R4), (.int .i64), (.int .i64), (.int .i64), .bool, (.sl R1)], [.bool, (.sl R1), (.int .i64), (.sl R2), .bool, (.int .i64), .bool, (.int .i64), (.sl R3), (.int .i64), (.sl R4)], fun (p : List Int × Int × List Bool × Bool × Int × Bool × Int × (List (Int × Bool)) × Int × (List (Int × Int × Int × Bool × List Int)) × Int × Int × Int × Bool × List Int) => f_spec_l4Hear p.1 p.2.1 p.2.2.1 p.2.2.2.1 p.2.2.2.2.1 p.2.2.2.2.2.1 p.2.2.2.2.2.2.1 p.2.2.2.2.2.2.2.1 p.2.2.2.2.2.2.2.2.1 p.2.2.2.2.2.2.2.2.2.1 p.2.2.2.2.2.2.2.2.2.2.1 p.2.2.2.2.2.2.2.2.2.2.2.1 p.2.2.2.2.2.2.2.2.2.2.2.2.1 p.2.2.2.2.2.2.2.2.2.2.2.2.2.1 p.2.2.2.2.2.2.2.2.2.2.2.2.2.2⟩
noncomputable abbrev K56 : Cons := [(92, C92)]
noncomputable abbrev L56 : List (Nat × Loops) := []
abbrev Q56 : List (Nat × List (Int × Nat) × Nat) := []
noncomputable abbrev X56 : Nat → Ctx := ctxOf tb K56 L56 Q56
theorem E56 : ∀ x, funG fs X56 6 56 C56 x = C56.fn x := fun x => by kernel_rfl
theorem B56 : ConG Try.prog 56 C56 := ConG.make FS MIX TY (cons := K56) (L := L56) (ptrs := Q56) ⟨S92, trivial⟩ trivial trivial rfl (by kernel_rfl) E56
theorem S56 : ConS Try.prog 56 C56 := B56.call (by kernel_rfl)
/-! spec.l4Next: function 57 -/
noncomputable def f_spec_l4Next.l0 : Nat → Int → Int → Bool → Int → Bool → Int → Int → (List Int) → (List Bool) → (List (Int × Bool)) → (List (Int × Int × Int × Bool × List Int)) → Option (Int × Bool × Int × Bool × Int × Int × List Int × List Bool × (List (Int × Bool)) × (List (Int × Int × Int × Bool × List Int)))
  | 0, _, _, _, _, _, _, _, _, _, _, _ => none
  | n + 1, p634, p635, p636, p637, p638, p639, p640, p641, p642, p643, p644 =>
    bif (decide (p634 < (p642.length : Int))) then
      bif p638 then
        bif ((decide ((0 : Int) ≤ p634)) && (decide (p634 < (p642.length : Int)))) then
        bif (p642.getD p634.toNat false) then
          bif (!(decide (p634 = p637))) then
            (f_spec_l4Tell p641 p635 p642 p636 p637 p638 p639 p643 p640 p644 p634 4 0 false []).bind fun y645 =>
            bif ((decide ((0 : Int) ≤ p634)) && (decide (p634 < (y645.2.2.1.length : Int)))) then
            (some ((y645.2.2.1.set p634.toNat false) : List Bool)).bind fun z646 =>
            f_spec_l4Next.l0 n (IntKind.wrap .i64 (p634 + (1 : Int))) y645.2.1 y645.2.2.2.1 y645.2.2.2.2.1 y645.2.2.2.2.2.1 (IntKind.wrap .i64 (y645.2.2.2.2.2.2.1 + (1 : Int))) y645.2.2.2.2.2.2.2.2.1 y645.1 z646 y645.2.2.2.2.2.2.2.1 y645.2.2.2.2.2.2.2.2.2
            else none
          else
            f_spec_l4Next.l0 n (IntKind.wrap .i64 (p634 + (1 : Int))) p635 p636 p637 p638 p639 p640 p641 p642 p643 p644
        else
          f_spec_l4Next.l0 n (IntKind.wrap .i64 (p634 + (1 : Int))) p635 p636 p637 p638 p639 p640 p641 p642 p643 p644
        else none
      else
        some (p635, p636, p637, p638, p639, p640, p641, p642, p643, p644)
    else
      some (p635, p636, p637, p638, p639, p640, p641, p642, p643, p644)
noncomputable def f_spec_l4Next (x0 : List Int) (x1 : Int) (x2 : List Bool) (x3 : Bool) (x4 : Int) (x5 : Bool) (x6 : Int) (x7 : List (Int × Bool)) (x8 : Int) (x9 : List (Int × Int × Int × Bool × List Int)) : Option (List Int × Int × List Bool × Bool × Int × Bool × Int × (List (Int × Bool)) × Int × (List (Int × Int × Int × Bool × List Int))) :=
  bif (decide ((0 : Int) < (x7.length : Int))) then
  bif (decide ((1 : Int) ≤ (x7.length : Int))) then
  bif (Nat.blt (([] : List (Int × Bool)).length + ((x7.drop 1).take ((x7.length : Int) - (1 : Int)).toNat).length) 8796093022208) then
  (some ((([] : List (Int × Bool)) ++ ((x7.drop 1).take ((x7.length : Int) - (1 : Int)).toNat)) : List (Int × Bool))).bind fun z632 =>
  bif (decide ((0 : Int) ≤ x1)) then
    (f_spec_l4Tell x0 x1 x2 true ((x7.getD 0 (0, false)).1) ((x7.getD 0 (0, false)).2) x6 z632 x8 x9 x1 6 0 ((x7.getD 0 (0, false)).2) []).bind fun y633 =>
    some (y633.1, y633.2.1, y633.2.2.1, y633.2.2.2.1, y633.2.2.2.2.1, y633.2.2.2.2.2.1, y633.2.2.2.2.2.2.1, y633.2.2.2.2.2.2.2.1, y633.2.2.2.2.2.2.2.2.1, y633.2.2.2.2.2.2.2.2.2)
  else
    (f_spec_l4Next.l0 N 0 x1 true ((x7.getD 0 (0, false)).1) ((x7.getD 0 (0, false)).2) 0 x8 x0 x2 z632 x9).bind fun r647 =>
    bif (decide (r647.2.2.2.2.1 = (0 : Int))) then
      (f_spec_l4Give r647.2.2.2.2.2.2.1 r647.1 r647.2.2.2.2.2.2.2.1 r647.2.1 r647.2.2.1 r647.2.2.2.1 r647.2.2.2.2.1 r647.2.2.2.2.2.2.2.2.1 r647.2.2.2.2.2.1 r647.2.2.2.2.2.2.2.2.2).bind fun y648 =>
      some (y648.1, y648.2.1, y648.2.2.1, y648.2.2.2.1, y648.2.2.2.2.1, y648.2.2.2.2.2.1, y648.2.2.2.2.2.2.1, y648.2.2.2.2.2.2.2.1, y648.2.2.2.2.2.2.2.2.1, y648.2.2.2.2.2.2.2.2.2)
    else
      some (r647.2.2.2.2.2.2.1, r647.1, r647.2.2.2.2.2.2.2.1, r647.2.1, r647.2.2.1, r647.2.2.2.1, r647.2.2.2.2.1, r647.2.2.2.2.2.2.2.2.1, r647.2.2.2.2.2.1, r647.2.2.2.2.2.2.2.2.2)
  else none
  else none
  else none
noncomputable def C57 : Con := ⟨[(.P [true, true, true, true, true, true, true, true, true, true], false, [(.sl R1), (.int .i64), (.sl R2), .bool, (.int .i64), .bool, (.int .i64), (.sl R3), (.int .i64), (.sl R4)])], [], [(.sl R1), (.int .i64), (.sl R2), .bool, (.int .i64), .bool, (.int .i64), (.sl R3), (.int .i64), (.sl R4)], [(.sl R1), (.int .i64), (.sl R2), .bool, (.int .i64), .bool, (.int .i64), (.sl R3), (.int .i64), (.sl R4)], fun (p : List Int × Int × List Bool × Bool × Int × Bool × Int × (List (Int × Bool)) × Int × (List (Int × Int × Int × Bool × List Int))) => f_spec_l4Next p.1 p.2.1 p.2.2.1 p.2.2.2.1 p.2.2.2.2.1 p.2.2.2.2.2.1 p.2.2.2.2.2.2.1 p.2.2.2.2.2.2.2.1 p.2.2.2.2.2.2.2.2.1 p.2.2.2.2.2.2.2.2.2⟩
noncomputable abbrev f_spec_l4Next.l0.u (n : Nat) := fun (p : Int × Int × Bool × Int × Bool × Int × Int × List Int × List Bool × (List (Int × Bool)) × (List (Int × Int × Int × Bool × List Int))) => f_spec_l4Next.l0 n p.1 p.2.1 p.2.2.1 p.2.2.2.1 p.2.2.2.2.1 p.2.2.2.2.2.1 p.2.2.2.2.2.2.1 p.2.2.2.2.2.2.2.1 p.2.2.2.2.2.2.2.2.1 p.2.2.2.2.2.2.2.2.2.1 p.2.2.2.2.2.2.2.2.2.2
noncomputable def f_spec_l4Next.l0.c : LoopCon := ⟨1000, 6, [0, 2], ⟨[(0, .ptr 500 0), (2, .int .i64 0)], [(500, .box [.ref 1000 [] none, .int .i64 0, .ref 1001 [] none, .bool false, .int .i64 0, .bool false, .int .i64 0, .ref 1002 [] none, .int .i64 0, .ref 1003 [] none]), (1000, .row R1 []), (1001, .row R2 []), (1002, .row R3 []), (1003, .row R4 [])], 1004⟩, [(.int .i64), (.int .i64), .bool, (.int .i64), .bool, (.int .i64), (.int .i64), (.sl R1), (.sl R2), (.sl R3), (.sl R4)], [⟨.exit 0, [0], ⟨[(0, .ptr 500 0)], [(500, .box [.ref 1000 [] none, .int .i64 0, .ref 1001 [] none, .bool false, .int .i64 0, .bool false, .int .i64 0, .ref 1002 [] none, .int .i64 0, .ref 1003 [] none]), (1000, .row R1 []), (1001, .row R2 []), (1002, .row R3 []), (1003, .row R4 [])], 1004⟩, [(.int .i64), .bool, (.int .i64), .bool, (.int .i64), (.int .i64), (.sl R1), (.sl R2), (.sl R3), (.sl R4)]⟩], f_spec_l4Next.l0.u N⟩
noncomputable abbrev K57 : Cons := [(92, C92), (93, C93)]
noncomputable abbrev L57 : List (Nat × Loops) := [(57, [(7, f_spec_l4Next.l0.c)])]
abbrev Q57 : List (Nat × List (Int × Nat) × Nat) := []
noncomputable abbrev X57 : Nat → Ctx := ctxOf tb K57 L57 Q57
theorem f_spec_l4Next.l0.ok : ∀ n p, f_spec_l4Next.l0.u n p = iterD (roundOf fs X57 6 57 7 false f_spec_l4Next.l0.c) n p :=
  iter_of (l := f_spec_l4Next.l0.u) (fun _ => rfl) (fun n p => by kernel_rfl)
theorem E57 : ∀ x, funG fs X57 6 57 C57 x = C57.fn x := fun x => by kernel_rfl
theorem B57 : ConG Try.prog 57 C57 := ConG.make FS MIX TY (cons := K57) (L := L57) (ptrs := Q57) ⟨S92, S93, trivial⟩ trivial ⟨⟨⟨N, fun p => f_spec_l4Next.l0.ok N p⟩, trivial⟩, trivial⟩ rfl (by kernel_rfl) E57
theorem S57 : ConS Try.prog 57 C57 := B57.call (by kernel_rfl)
/-! spec.HomeHear: function 16 -/
noncomputable def f_spec_HomeHear.l0 : Nat → Int → Bool → Int → Bool → Int → Int → Bool → Int → Bool → Int → Int → (List Int) → (List Bool) → (List (Int × Bool)) → (List Int) → (List Bool) → (List (Int × Bool)) → (List (Int × Int × Int × Bool × List Int)) → Option (Int × Bool × Int × Bool × Int × Int × Bool × Int × Bool × Int × Int × List Int × List Bool × (List (Int × Bool)) × List Int × List Bool × (List (Int × Bool)) × (List (Int × Int × Int × Bool × List Int)))
  | 0, _, _, _, _, _, _, _, _, _, _, _, _, _, _, _, _, _, _ => none
  | n + 1, p659, p660, p661, p662, p663, p664, p665, p666, p667, p668, p669, p670, p671, p672, p673, p674, p675, p676 =>
    bif (!p665) then
      bif (decide ((0 : Int) < (p675.length : Int))) then
        (f_spec_l4Next p673 p664 p674 p665 p666 p667 p668 p675 p669 p676).bind fun y677 =>
        f_spec_HomeHear.l0 n p659 p660 p661 p662 p663 y677.2.1 y677.2.2.2.1 y677.2.2.2.2.1 y677.2.2.2.2.2.1 y677.2.2.2.2.2.2.1 y677.2.2.2.2.2.2.2.2.1 p670 p671 p672 y677.1 y677.2.2.1 y677.2.2.2.2.2.2.2.1 y677.2.2.2.2.2.2.2.2.2
      else
        some (p659, p660, p661, p662, p663, p664, p665, p666, p667, p668, p669, p670, p671, p672, p673, p674, p675, p676)
    else
      some (p659, p660, p661, p662, p663, p664, p665, p666, p667, p668, p669, p670, p671, p672, p673, p674, p675, p676)
noncomputable def f_spec_HomeHear (x0 : List Int) (x1 : Int) (x2 : List Bool) (x3 : Bool) (x4 : Int) (x5 : Bool) (x6 : Int) (x7 : List (Int × Bool)) (x8 : Int) (x9 : Int) (x10 : Int) (x11 : Int) (x12 : Int) (x13 : Bool) (x14 : List Int) : Option (List Int × Int × List Bool × Bool × Int × Bool × Int × (List (Int × Bool)) × (List (Int × Int × Int × Bool × List Int))) :=
  (f_spec_HomeOk x0 x1 x2 x3 x4 x5 x6 x7 x8).bind fun y649 =>
  bif (!y649) then
    (f_spec_l4Copy x0 x1 x2 x3 x4 x5 x6 x7).bind fun y650 =>
    some (y650.1, y650.2.1, y650.2.2.1, y650.2.2.2.1, y650.2.2.2.2.1, y650.2.2.2.2.2.1, y650.2.2.2.2.2.2.1, y650.2.2.2.2.2.2.2, ([] : List (Int × Int × Int × Bool × List Int)))
  else
    (f_spec_MsgOk x11 x12 x13 x14).bind fun y651 =>
    bif (!y651) then
      (f_spec_l4Copy x0 x1 x2 x3 x4 x5 x6 x7).bind fun y652 =>
      some (y652.1, y652.2.1, y652.2.2.1, y652.2.2.2.1, y652.2.2.2.2.1, y652.2.2.2.2.2.1, y652.2.2.2.2.2.2.1, y652.2.2.2.2.2.2.2, ([] : List (Int × Int × Int × Bool × List Int)))
    else
      (f_spec_l1In x10 0 (IntKind.wrap .i64 (x8 - (1 : Int)))).bind fun y653 =>
      bif (!y653) then
        (f_spec_l4Copy x0 x1 x2 x3 x4 x5 x6 x7).bind fun y654 =>
        some (y654.1, y654.2.1, y654.2.2.1, y654.2.2.2.1, y654.2.2.2.2.1, y654.2.2.2.2.2.1, y654.2.2.2.2.2.2.1, y654.2.2.2.2.2.2.2, ([] : List (Int × Int × Int × Bool × List Int)))
      else
        bif (!(decide (x12 = x9))) then
          (f_spec_l4Copy x0 x1 x2 x3 x4 x5 x6 x7).bind fun y655 =>
          some (y655.1, y655.2.1, y655.2.2.1, y655.2.2.2.1, y655.2.2.2.2.1, y655.2.2.2.2.2.1, y655.2.2.2.2.2.2.1, y655.2.2.2.2.2.2.2, ([] : List (Int × Int × Int × Bool × List Int)))
        else
          (f_spec_l4Copy x0 x1 x2 x3 x4 x5 x6 x7).bind fun y656 =>
          (f_spec_l4Hear y656.1 y656.2.1 y656.2.2.1 y656.2.2.2.1 y656.2.2.2.2.1 y656.2.2.2.2.2.1 y656.2.2.2.2.2.2.1 y656.2.2.2.2.2.2.2 x9 [] x10 x11 x12 x13 x14).bind fun y657 =>
          bif (!y657.1) then
            (f_spec_l4Copy x0 x1 x2 x3 x4 x5 x6 x7).bind fun y658 =>
            some (y658.1, y658.2.1, y658.2.2.1, y658.2.2.2.1, y658.2.2.2.2.1, y658.2.2.2.2.2.1, y658.2.2.2.2.2.2.1, y658.2.2.2.2.2.2.2, ([] : List (Int × Int × Int × Bool × List Int)))
          else
            (f_spec_HomeHear.l0 N 0 false 0 false 0 y657.2.2.1 y657.2.2.2.2.1 y657.2.2.2.2.2.1 y657.2.2.2.2.2.2.1 y657.2.2.2.2.2.2.2.1 y657.2.2.2.2.2.2.2.2.2.1 ([] : List Int) ([] : List Bool) ([] : List (Int × Bool)) y657.2.1 y657.2.2.2.1 y657.2.2.2.2.2.2.2.2.1 y657.2.2.2.2.2.2.2.2.2.2).bind fun r678 =>
            some (r678.2.2.2.2.2.2.2.2.2.2.2.2.2.2.1, r678.2.2.2.2.2.1, r678.2.2.2.2.2.2.2.2.2.2.2.2.2.2.2.1, r678.2.2.2.2.2.2.1, r678.2.2.2.2.2.2.2.1, r678.2.2.2.2.2.2.2.2.1, r678.2.2.2.2.2.2.2.2.2.1, r678.2.2.2.2.2.2.2.2.2.2.2.2.2.2.2.2.1, r678.2.2.2.2.2.2.2.2.2.2.2.2.2.2.2.2.2)
noncomputable def C16 : Con := ⟨[(.B, true, [(.sl R1), (.int .i64), (.sl R2), .bool, (.int .i64), .bool, (.int .i64), (.sl R3)]), (.B, false, [(.int .i64)]), (.B, false, [(.int .i64)]), (.B, false, [(.int .i64)]), (.B, true, [(.int .i64), (.int .i64), .bool, (.sl R1)])], [(true, [(.sl R1), (.int .i64), (.sl R2), .bool, (.int .i64), .bool, (.int .i64), (.sl R3)]), (false, [(.sl R4)])], [(.sl R1), (.int .i64), (.sl R2), .bool, (.int .i64), .bool, (.int .i64), (.sl R3), (.int .i64), (.int .i64), (.int .i64), (.int .i64), (.int .i64), .bool, (.sl R1)], [(.sl R1), (.int .i64), (.sl R2), .bool, (.int .i64), .bool, (.int .i64), (.sl R3), (.sl R4)], fun (p : List Int × Int × List Bool × Bool × Int × Bool × Int × (List (Int × Bool)) × Int × Int × Int × Int × Int × Bool × List Int) => f_spec_HomeHear p.1 p.2.1 p.2.2.1 p.2.2.2.1 p.2.2.2.2.1 p.2.2.2.2.2.1 p.2.2.2.2.2.2.1 p.2.2.2.2.2.2.2.1 p.2.2.2.2.2.2.2.2.1 p.2.2.2.2.2.2.2.2.2.1 p.2.2.2.2.2.2.2.2.2.2.1 p.2.2.2.2.2.2.2.2.2.2.2.1 p.2.2.2.2.2.2.2.2.2.2.2.2.1 p.2.2.2.2.2.2.2.2.2.2.2.2.2.1 p.2.2.2.2.2.2.2.2.2.2.2.2.2.2⟩
noncomputable abbrev f_spec_HomeHear.l0.u (n : Nat) := fun (p : Int × Bool × Int × Bool × Int × Int × Bool × Int × Bool × Int × Int × List Int × List Bool × (List (Int × Bool)) × List Int × List Bool × (List (Int × Bool)) × (List (Int × Int × Int × Bool × List Int))) => f_spec_HomeHear.l0 n p.1 p.2.1 p.2.2.1 p.2.2.2.1 p.2.2.2.2.1 p.2.2.2.2.2.1 p.2.2.2.2.2.2.1 p.2.2.2.2.2.2.2.1 p.2.2.2.2.2.2.2.2.1 p.2.2.2.2.2.2.2.2.2.1 p.2.2.2.2.2.2.2.2.2.2.1 p.2.2.2.2.2.2.2.2.2.2.2.1 p.2.2.2.2.2.2.2.2.2.2.2.2.1 p.2.2.2.2.2.2.2.2.2.2.2.2.2.1 p.2.2.2.2.2.2.2.2.2.2.2.2.2.2.1 p.2.2.2.2.2.2.2.2.2.2.2.2.2.2.2.1 p.2.2.2.2.2.2.2.2.2.2.2.2.2.2.2.2.1 p.2.2.2.2.2.2.2.2.2.2.2.2.2.2.2.2.2
noncomputable def f_spec_HomeHear.l0.c : LoopCon := ⟨1000, 6, [10, 11, 12], ⟨[(10, .ptr 1000 0), (11, .nil (some R4)), (12, .ptr 1001 0)], [(1000, .box [.ref 1002 [] none, .int .i64 0, .ref 1003 [] none, .bool false, .int .i64 0, .bool false, .int .i64 0, .ref 1004 [] none]), (1001, .box [.ref 1005 [] none, .int .i64 0, .ref 1006 [] none, .bool false, .int .i64 0, .bool false, .int .i64 0, .ref 1007 [] none, .int .i64 0, .ref 1008 [] none]), (1002, .row R1 []), (1003, .row R2 []), (1004, .row R3 []), (1005, .row R1 []), (1006, .row R2 []), (1007, .row R3 []), (1008, .row R4 [])], 1009⟩, [(.int .i64), .bool, (.int .i64), .bool, (.int .i64), (.int .i64), .bool, (.int .i64), .bool, (.int .i64), (.int .i64), (.sl R1), (.sl R2), (.sl R3), (.sl R1), (.sl R2), (.sl R3), (.sl R4)], [⟨.exit 0, [10, 11, 12], ⟨[(10, .ptr 1000 0), (11, .nil (some R4)), (12, .ptr 1001 0)], [(1000, .box [.ref 1002 [] none, .int .i64 0, .ref 1003 [] none, .bool false, .int .i64 0, .bool false, .int .i64 0, .ref 1004 [] none]), (1001, .box [.ref 1005 [] none, .int .i64 0, .ref 1006 [] none, .bool false, .int .i64 0, .bool false, .int .i64 0, .ref 1007 [] none, .int .i64 0, .ref 1008 [] none]), (1002, .row R1 []), (1003, .row R2 []), (1004, .row R3 []), (1005, .row R1 []), (1006, .row R2 []), (1007, .row R3 []), (1008, .row R4 [])], 1009⟩, [(.int .i64), .bool, (.int .i64), .bool, (.int .i64), (.int .i64), .bool, (.int .i64), .bool, (.int .i64), (.int .i64), (.sl R1), (.sl R2), (.sl R3), (.sl R1), (.sl R2), (.sl R3), (.sl R4)]⟩], f_spec_HomeHear.l0.u N⟩
noncomputable abbrev K16 : Cons := [(41, C41), (53, C53), (54, C54), (55, C55), (56, C56), (57, C57)]
noncomputable abbrev L16 : List (Nat × Loops) := [(16, [(6, f_spec_HomeHear.l0.c)])]
abbrev Q16 : List (Nat × List (Int × Nat) × Nat) := []
noncomputable abbrev X16 : Nat → Ctx := ctxOf tb K16 L16 Q16
theorem f_spec_HomeHear.l0.ok : ∀ n p, f_spec_HomeHear.l0.u n p = iterD (roundOf fs X16 6 16 6 false f_spec_HomeHear.l0.c) n p :=
  iter_of (l := f_spec_HomeHear.l0.u) (fun _ => rfl) (fun n p => by kernel_rfl)
theorem E16 : ∀ x, funRun fs X16 6 16 C16 x = C16.fn x := fun x => by kernel_rfl
theorem B16 : ConB Try.prog 16 C16 := ConB.make FS MIX TY (cons := K16) (L := L16) (ptrs := Q16) ⟨S41, S53, S54, S55, S56, S57, trivial⟩ trivial ⟨⟨⟨N, fun p => f_spec_HomeHear.l0.ok N p⟩, trivial⟩, trivial⟩ rfl rfl E16
theorem S16 : ConS Try.prog 16 C16 := B16.call rfl
/-! laws.sameInts: function 18 -/
noncomputable def f_laws_sameInts.l0 : Nat → (List Int) → (List Int) → Bool → Int → Option ((Bool) ⊕ (Bool))
  | 0, _, _, _, _ => none
  | n + 1, p679, p680, p681, p682 =>
    bif (decide (p682 < (p679.length : Int))) then
      bif ((decide ((0 : Int) ≤ p682)) && (decide (p682 < (p679.length : Int)))) then
      bif ((decide ((0 : Int) ≤ p682)) && (decide (p682 < (p680.length : Int)))) then
      bif (!(decide ((p679.getD p682.toNat 0) = (p680.getD p682.toNat 0)))) then
        some (.inl false)
      else
        f_laws_sameInts.l0 n p679 p680 p681 (IntKind.wrap .i64 (p682 + (1 : Int)))
      else none
      else none
    else
      some (.inr p681)
noncomputable def f_laws_sameInts (x0 : List Int) (x1 : List Int) : Option (Bool) :=
  bif (!(decide ((x0.length : Int) = (x1.length : Int)))) then
    some false
  else
    (f_laws_sameInts.l0 N x0 x1 false 0).bind fun r683 =>
    cs r683 (fun a684 =>
      some a684) (fun b685 =>
      some true)
noncomputable def C18 : Con := ⟨[(.B, false, [(.sl R1)]), (.B, false, [(.sl R1)])], [(false, [.bool])], [(.sl R1), (.sl R1)], [.bool], fun (p : List Int × List Int) => f_laws_sameInts p.1 p.2⟩
noncomputable abbrev f_laws_sameInts.l0.u (n : Nat) := fun (p : List Int × List Int × Bool × Int) => f_laws_sameInts.l0 n p.1 p.2.1 p.2.2.1 p.2.2.2
noncomputable def f_laws_sameInts.l0.c : LoopCon := ⟨1000, 6, [0, 1, 4, 5], ⟨[(0, .bor none R1 []), (1, .bor none R1 []), (4, .bool false), (5, .int .i64 0)], [], 1000⟩, [(.sl R1), (.sl R1), .bool, (.int .i64)], [⟨.ret, [4], ⟨[(4, .bool false)], [], 1000⟩, [.bool]⟩, ⟨.exit 0, [4], ⟨[(4, .bool false)], [], 1000⟩, [.bool]⟩], f_laws_sameInts.l0.u N⟩
noncomputable abbrev K18 : Cons := []
noncomputable abbrev L18 : List (Nat × Loops) := [(18, [(4, f_laws_sameInts.l0.c)])]
abbrev Q18 : List (Nat × List (Int × Nat) × Nat) := []
noncomputable abbrev X18 : Nat → Ctx := ctxOf tb K18 L18 Q18
theorem f_laws_sameInts.l0.ok : ∀ n p, f_laws_sameInts.l0.u n p = iterD (roundOf fs X18 6 18 4 false f_laws_sameInts.l0.c) n p :=
  iter_of (l := f_laws_sameInts.l0.u) (fun _ => rfl) (fun n p => by kernel_rfl)
theorem E18 : ∀ x, funRun fs X18 6 18 C18 x = C18.fn x := fun x => by kernel_rfl
theorem B18 : ConB Try.prog 18 C18 := ConB.make FS MIX TY (cons := K18) (L := L18) (ptrs := Q18) trivial trivial ⟨⟨⟨N, fun p => f_laws_sameInts.l0.ok N p⟩, trivial⟩, trivial⟩ rfl rfl E18
theorem S18 : ConS Try.prog 18 C18 := B18.call rfl
/-! laws.sameHome: function 17 -/
noncomputable def f_laws_sameHome.l1 : Nat → Bool → Int → (List Int) → Int → (List Bool) → Bool → Int → Bool → Int → (List (Int × Bool)) → (List Int) → Int → (List Bool) → Bool → Int → Bool → Int → (List (Int × Bool)) → Option ((Bool) ⊕ (Bool))
  | 0, _, _, _, _, _, _, _, _, _, _, _, _, _, _, _, _, _, _ => none
  | n + 1, p708, p709, p710, p711, p712, p713, p714, p715, p716, p717, p718, p719, p720, p721, p722, p723, p724, p725 =>
    bif (decide (p709 < (p717.length : Int))) then
      bif ((decide ((0 : Int) ≤ p709)) && (decide (p709 < (p717.length : Int)))) then
      bif ((decide ((0 : Int) ≤ p709)) && (decide (p709 < (p725.length : Int)))) then
      bif (!((decide (((p717.getD p709.toNat (0, false)).1) = ((p725.getD p709.toNat (0, false)).1))) && (((p717.getD p709.toNat (0, false)).2) == ((p725.getD p709.toNat (0, false)).2)))) then
        some (.inl false)
      else
        f_laws_sameHome.l1 n p708 (IntKind.wrap .i64 (p709 + (1 : Int))) p710 p711 p712 p713 p714 p715 p716 p717 p718 p719 p720 p721 p722 p723 p724 p725
      else none
      else none
    else
      some (.inr p708)
noncomputable def f_laws_sameHome.l0 : Nat → Bool → Int → (List Int) → Int → (List Bool) → Bool → Int → Bool → Int → (List (Int × Bool)) → (List Int) → Int → (List Bool) → Bool → Int → Bool → Int → (List (Int × Bool)) → Option ((Bool) ⊕ (Bool × List Int × Int × List Bool × Bool × Int × Bool × Int × (List (Int × Bool)) × List Int × Int × List Bool × Bool × Int × Bool × Int × (List (Int × Bool))))
  | 0, _, _, _, _, _, _, _, _, _, _, _, _, _, _, _, _, _, _ => none
  | n + 1, p687, p688, p689, p690, p691, p692, p693, p694, p695, p696, p697, p698, p699, p700, p701, p702, p703, p704 =>
    bif (decide (p688 < (p691.length : Int))) then
      bif ((decide ((0 : Int) ≤ p688)) && (decide (p688 < (p691.length : Int)))) then
      bif ((decide ((0 : Int) ≤ p688)) && (decide (p688 < (p699.length : Int)))) then
      bif (!((p691.getD p688.toNat false) == (p699.getD p688.toNat false))) then
        some (.inl false)
      else
        f_laws_sameHome.l0 n p687 (IntKind.wrap .i64 (p688 + (1 : Int))) p689 p690 p691 p692 p693 p694 p695 p696 p697 p698 p699 p700 p701 p702 p703 p704
      else none
      else none
    else
      some (.inr (p687, p689, p690, p691, p692, p693, p694, p695, p696, p697, p698, p699, p700, p701, p702, p703, p704))
noncomputable def f_laws_sameHome (x0 : List Int) (x1 : Int) (x2 : List Bool) (x3 : Bool) (x4 : Int) (x5 : Bool) (x6 : Int) (x7 : List (Int × Bool)) (x8 : List Int) (x9 : Int) (x10 : List Bool) (x11 : Bool) (x12 : Int) (x13 : Bool) (x14 : Int) (x15 : List (Int × Bool)) : Option (Bool) :=
  bif (!(decide (x1 = x9))) then
    some false
  else
    bif (!(x3 == x11)) then
      some false
    else
      bif (!((decide (x4 = x12)) && (x5 == x13))) then
        some false
      else
        bif (!(decide (x6 = x14))) then
          some false
        else
          (f_laws_sameInts x0 x8).bind fun y686 =>
          bif (!y686) then
            some false
          else
            bif (!(decide ((x2.length : Int) = (x10.length : Int)))) then
              some false
            else
              bif (!(decide ((x7.length : Int) = (x15.length : Int)))) then
                some false
              else
                (f_laws_sameHome.l0 N false 0 x0 x1 x2 x3 x4 x5 x6 x7 x8 x9 x10 x11 x12 x13 x14 x15).bind fun r705 =>
                cs r705 (fun a706 =>
                  some a706) (fun b707 =>
                  (f_laws_sameHome.l1 N b707.1 0 b707.2.1 b707.2.2.1 b707.2.2.2.1 b707.2.2.2.2.1 b707.2.2.2.2.2.1 b707.2.2.2.2.2.2.1 b707.2.2.2.2.2.2.2.1 b707.2.2.2.2.2.2.2.2.1 b707.2.2.2.2.2.2.2.2.2.1 b707.2.2.2.2.2.2.2.2.2.2.1 b707.2.2.2.2.2.2.2.2.2.2.2.1 b707.2.2.2.2.2.2.2.2.2.2.2.2.1 b707.2.2.2.2.2.2.2.2.2.2.2.2.2.1 b707.2.2.2.2.2.2.2.2.2.2.2.2.2.2.1 b707.2.2.2.2.2.2.2.2.2.2.2.2.2.2.2.1 b707.2.2.2.2.2.2.2.2.2.2.2.2.2.2.2.2).bind fun r726 =>
                  cs r726 (fun a727 =>
                    some a727) (fun b728 =>
                    some true))
noncomputable def C17 : Con := ⟨[(.B, true, [(.sl R1), (.int .i64), (.sl R2), .bool, (.int .i64), .bool, (.int .i64), (.sl R3)]), (.B, true, [(.sl R1), (.int .i64), (.sl R2), .bool, (.int .i64), .bool, (.int .i64), (.sl R3)])], [(false, [.bool])], [(.sl R1), (.int .i64), (.sl R2), .bool, (.int .i64), .bool, (.int .i64), (.sl R3), (.sl R1), (.int .i64), (.sl R2), .bool, (.int .i64), .bool, (.int .i64), (.sl R3)], [.bool], fun (p : List Int × Int × List Bool × Bool × Int × Bool × Int × (List (Int × Bool)) × List Int × Int × List Bool × Bool × Int × Bool × Int × (List (Int × Bool))) => f_laws_sameHome p.1 p.2.1 p.2.2.1 p.2.2.2.1 p.2.2.2.2.1 p.2.2.2.2.2.1 p.2.2.2.2.2.2.1 p.2.2.2.2.2.2.2.1 p.2.2.2.2.2.2.2.2.1 p.2.2.2.2.2.2.2.2.2.1 p.2.2.2.2.2.2.2.2.2.2.1 p.2.2.2.2.2.2.2.2.2.2.2.1 p.2.2.2.2.2.2.2.2.2.2.2.2.1 p.2.2.2.2.2.2.2.2.2.2.2.2.2.1 p.2.2.2.2.2.2.2.2.2.2.2.2.2.2.1 p.2.2.2.2.2.2.2.2.2.2.2.2.2.2.2⟩
noncomputable abbrev f_laws_sameHome.l0.u (n : Nat) := fun (p : Bool × Int × List Int × Int × List Bool × Bool × Int × Bool × Int × (List (Int × Bool)) × List Int × Int × List Bool × Bool × Int × Bool × Int × (List (Int × Bool))) => f_laws_sameHome.l0 n p.1 p.2.1 p.2.2.1 p.2.2.2.1 p.2.2.2.2.1 p.2.2.2.2.2.1 p.2.2.2.2.2.2.1 p.2.2.2.2.2.2.2.1 p.2.2.2.2.2.2.2.2.1 p.2.2.2.2.2.2.2.2.2.1 p.2.2.2.2.2.2.2.2.2.2.1 p.2.2.2.2.2.2.2.2.2.2.2.1 p.2.2.2.2.2.2.2.2.2.2.2.2.1 p.2.2.2.2.2.2.2.2.2.2.2.2.2.1 p.2.2.2.2.2.2.2.2.2.2.2.2.2.2.1 p.2.2.2.2.2.2.2.2.2.2.2.2.2.2.2.1 p.2.2.2.2.2.2.2.2.2.2.2.2.2.2.2.2.1 p.2.2.2.2.2.2.2.2.2.2.2.2.2.2.2.2.2
noncomputable def f_laws_sameHome.l0.c : LoopCon := ⟨1000, 6, [2, 3, 4, 5], ⟨[(2, .ptr 1000 0), (3, .ptr 1001 0), (4, .bool false), (5, .int .i64 0)], [(1000, .box [.bor none R1 [], .int .i64 0, .bor none R2 [], .bool false, .int .i64 0, .bool false, .int .i64 0, .bor none R3 []]), (1001, .box [.bor none R1 [], .int .i64 0, .bor none R2 [], .bool false, .int .i64 0, .bool false, .int .i64 0, .bor none R3 []])], 1002⟩, [.bool, (.int .i64), (.sl R1), (.int .i64), (.sl R2), .bool, (.int .i64), .bool, (.int .i64), (.sl R3), (.sl R1), (.int .i64), (.sl R2), .bool, (.int .i64), .bool, (.int .i64), (.sl R3)], [⟨.ret, [4], ⟨[(4, .bool false)], [], 1000⟩, [.bool]⟩, ⟨.exit 0, [2, 3, 4], ⟨[(2, .ptr 1000 0), (3, .ptr 1001 0), (4, .bool false)], [(1000, .box [.bor none R1 [], .int .i64 0, .bor none R2 [], .bool false, .int .i64 0, .bool false, .int .i64 0, .bor none R3 []]), (1001, .box [.bor none R1 [], .int .i64 0, .bor none R2 [], .bool false, .int .i64 0, .bool false, .int .i64 0, .bor none R3 []])], 1002⟩, [.bool, (.sl R1), (.int .i64), (.sl R2), .bool, (.int .i64), .bool, (.int .i64), (.sl R3), (.sl R1), (.int .i64), (.sl R2), .bool, (.int .i64), .bool, (.int .i64), (.sl R3)]⟩], f_laws_sameHome.l0.u N⟩
noncomputable abbrev f_laws_sameHome.l1.u (n : Nat) := fun (p : Bool × Int × List Int × Int × List Bool × Bool × Int × Bool × Int × (List (Int × Bool)) × List Int × Int × List Bool × Bool × Int × Bool × Int × (List (Int × Bool))) => f_laws_sameHome.l1 n p.1 p.2.1 p.2.2.1 p.2.2.2.1 p.2.2.2.2.1 p.2.2.2.2.2.1 p.2.2.2.2.2.2.1 p.2.2.2.2.2.2.2.1 p.2.2.2.2.2.2.2.2.1 p.2.2.2.2.2.2.2.2.2.1 p.2.2.2.2.2.2.2.2.2.2.1 p.2.2.2.2.2.2.2.2.2.2.2.1 p.2.2.2.2.2.2.2.2.2.2.2.2.1 p.2.2.2.2.2.2.2.2.2.2.2.2.2.1 p.2.2.2.2.2.2.2.2.2.2.2.2.2.2.1 p.2.2.2.2.2.2.2.2.2.2.2.2.2.2.2.1 p.2.2.2.2.2.2.2.2.2.2.2.2.2.2.2.2.1 p.2.2.2.2.2.2.2.2.2.2.2.2.2.2.2.2.2
noncomputable def f_laws_sameHome.l1.c : LoopCon := ⟨1000, 6, [2, 3, 4, 6], ⟨[(2, .ptr 1000 0), (3, .ptr 1001 0), (4, .bool false), (6, .int .i64 0)], [(1000, .box [.bor none R1 [], .int .i64 0, .bor none R2 [], .bool false, .int .i64 0, .bool false, .int .i64 0, .bor none R3 []]), (1001, .box [.bor none R1 [], .int .i64 0, .bor none R2 [], .bool false, .int .i64 0, .bool false, .int .i64 0, .bor none R3 []])], 1002⟩, [.bool, (.int .i64), (.sl R1), (.int .i64), (.sl R2), .bool, (.int .i64), .bool, (.int .i64), (.sl R3), (.sl R1), (.int .i64), (.sl R2), .bool, (.int .i64), .bool, (.int .i64), (.sl R3)], [⟨.ret, [4], ⟨[(4, .bool false)], [], 1000⟩, [.bool]⟩, ⟨.exit 2, [4], ⟨[(4, .bool false)], [], 1000⟩, [.bool]⟩], f_laws_sameHome.l1.u N⟩
noncomputable abbrev K17 : Cons := [(18, C18)]
noncomputable abbrev L17 : List (Nat × Loops) := [(17, [(4, f_laws_sameHome.l0.c), (9, f_laws_sameHome.l1.c)])]
abbrev Q17 : List (Nat × List (Int × Nat) × Nat) := []
noncomputable abbrev X17 : Nat → Ctx := ctxOf tb K17 L17 Q17
theorem f_laws_sameHome.l0.ok : ∀ n p, f_laws_sameHome.l0.u n p = iterD (roundOf fs X17 6 17 4 false f_laws_sameHome.l0.c) n p :=
  iter_of (l := f_laws_sameHome.l0.u) (fun _ => rfl) (fun n p => by kernel_rfl)
theorem f_laws_sameHome.l1.ok : ∀ n p, f_laws_sameHome.l1.u n p = iterD (roundOf fs X17 6 17 9 false f_laws_sameHome.l1.c) n p :=
  iter_of (l := f_laws_sameHome.l1.u) (fun _ => rfl) (fun n p => by kernel_rfl)
theorem E17 : ∀ x, funRun fs X17 6 17 C17 x = C17.fn x := fun x => by kernel_rfl
theorem B17 : ConB Try.prog 17 C17 := ConB.make FS MIX TY (cons := K17) (L := L17) (ptrs := Q17) ⟨S18, trivial⟩ trivial ⟨⟨⟨N, fun p => f_laws_sameHome.l0.ok N p⟩, ⟨N, fun p => f_laws_sameHome.l1.ok N p⟩, trivial⟩, trivial⟩ rfl rfl E17
theorem S17 : ConS Try.prog 17 C17 := B17.call rfl
/-! laws.FnHomeGives: function 4 -/
noncomputable def f_laws_FnHomeGives.l5 : Nat → (List Int) → Int → Int → Int → Int → Int → Int → Bool → Int → Bool → Int → (List Int) → (List Int) → (List Int) → (List Bool) → (List (Int × Bool)) → Option (List Int × Int × Int × Int × Int × Int × Bool × Int × Bool × Int × List Int × List Int × List Int × List Bool × (List (Int × Bool)))
  | 0, _, _, _, _, _, _, _, _, _, _, _, _, _, _, _, _ => none
  | n + 1, p857, p858, p859, p860, p861, p862, p863, p864, p865, p866, p867, p868, p869, p870, p871, p872 =>
    bif (decide (p862 < (3 : Int))) then
      bif ((decide ((0 : Int) ≤ p862)) && (decide (p862 < (p868.length : Int)))) then
      bif (decide ((0 : Int) < (p868.getD p862.toNat 0))) then
        bif ((decide ((0 : Int) ≤ p862)) && (decide (p862 < (p868.length : Int)))) then
        bif (decide ((p868.getD p862.toNat 0) = (2 : Int))) then
          f_laws_FnHomeGives.l5 n p857 p858 p859 (IntKind.wrap .i64 (p860 + (1 : Int))) (IntKind.wrap .i64 (p861 + (1 : Int))) (IntKind.wrap .i64 (p862 + (1 : Int))) p863 p864 p865 p866 p867 p868 p869 p870 p871 p872
        else
          f_laws_FnHomeGives.l5 n p857 p858 p859 (IntKind.wrap .i64 (p860 + (1 : Int))) p861 (IntKind.wrap .i64 (p862 + (1 : Int))) p863 p864 p865 p866 p867 p868 p869 p870 p871 p872
        else none
      else
        bif ((decide ((0 : Int) ≤ p862)) && (decide (p862 < (p868.length : Int)))) then
        bif (decide ((p868.getD p862.toNat 0) = (2 : Int))) then
          f_laws_FnHomeGives.l5 n p857 p858 p859 p860 (IntKind.wrap .i64 (p861 + (1 : Int))) (IntKind.wrap .i64 (p862 + (1 : Int))) p863 p864 p865 p866 p867 p868 p869 p870 p871 p872
        else
          f_laws_FnHomeGives.l5 n p857 p858 p859 p860 p861 (IntKind.wrap .i64 (p862 + (1 : Int))) p863 p864 p865 p866 p867 p868 p869 p870 p871 p872
        else none
      else none
    else
      some (p857, p858, p859, p860, p861, p863, p864, p865, p866, p867, p868, p869, p870, p871, p872)
noncomputable def f_laws_FnHomeGives.l2 : Nat → (List Int) → (List Int) → Int → Int → Int → Int → Int → Int → Bool → Int → Bool → Int → (List Int) → (List (Int × Int × Int × Bool × List Int)) → (List (Int × Int × Int × Bool × List Int)) → (List Int) → (List Bool) → (List (Int × Bool)) → Option ((Bool) ⊕ ((List Int × List Int × Int × Int × Int × Int × Bool × Int × Bool × Int × List Int × (List (Int × Int × Int × Bool × List Int)) × (List (Int × Int × Int × Bool × List Int)) × List Int × List Bool × (List (Int × Bool))) ⊕ (List Int × List Int × Int × Int × Int × Int × Int × Bool × Int × Bool × Int × List Int × (List (Int × Int × Int × Bool × List Int)) × List Int × List Bool × (List (Int × Bool)))))
  | 0, _, _, _, _, _, _, _, _, _, _, _, _, _, _, _, _, _, _ => none
  | n + 1, p762, p763, p764, p765, p766, p767, p768, p769, p770, p771, p772, p773, p774, p775, p776, p777, p778, p779 =>
    bif (decide (p768 < (p776.length : Int))) then
      bif ((decide ((0 : Int) ≤ p768)) && (decide (p768 < (p776.length : Int)))) then
      bif (decide (((p776.getD p768.toNat (0, 0, 0, false, [])).2.1) = (3 : Int))) then
        (f_laws_sameInts ((p776.getD p768.toNat (0, 0, 0, false, [])).2.2.2.2) p763).bind fun y780 =>
        bif (!y780) then
          some (.inl false)
        else
          bif ((decide ((0 : Int) ≤ ((p776.getD p768.toNat (0, 0, 0, false, [])).1))) && (decide (((p776.getD p768.toNat (0, 0, 0, false, [])).1) < (p774.length : Int)))) then
          (some ((p774.set ((p776.getD p768.toNat (0, 0, 0, false, [])).1).toNat 1) : List Int)).bind fun z781 =>
          bif (p776.getD p768.toNat (0, 0, 0, false, [])).2.2.2.1 then
            bif ((decide ((0 : Int) ≤ ((p776.getD p768.toNat (0, 0, 0, false, [])).1))) && (decide (((p776.getD p768.toNat (0, 0, 0, false, [])).1) < (z781.length : Int)))) then
            (some ((z781.set ((p776.getD p768.toNat (0, 0, 0, false, [])).1).toNat 2) : List Int)).bind fun z782 =>
            f_laws_FnHomeGives.l2 n p762 p763 p764 p765 p766 p767 (IntKind.wrap .i64 (p768 + (1 : Int))) p769 p770 p771 p772 p773 z782 p775 p776 p777 p778 p779
            else none
          else
            f_laws_FnHomeGives.l2 n p762 p763 p764 p765 p766 p767 (IntKind.wrap .i64 (p768 + (1 : Int))) p769 p770 p771 p772 p773 z781 p775 p776 p777 p778 p779
          else none
      else
        bif (decide (((p776.getD p768.toNat (0, 0, 0, false, [])).2.1) = (4 : Int))) then
          bif ((decide ((0 : Int) ≤ ((p776.getD p768.toNat (0, 0, 0, false, [])).1))) && (decide (((p776.getD p768.toNat (0, 0, 0, false, [])).1) < (p774.length : Int)))) then
          (some ((p774.set ((p776.getD p768.toNat (0, 0, 0, false, [])).1).toNat 0) : List Int)).bind fun z783 =>
          bif ((decide ((0 : Int) ≤ p766)) && (decide ((p766 + p767) = (p775.length : Int)))) then
          bif (Nat.blt (((p775.drop p766.toNat).take p767.toNat).length + ([((p776.getD p768.toNat (0, 0, 0, false, [])).1, 5, 0, false, [])] : List (Int × Int × Int × Bool × List Int)).length) 2513169434916) then
          (some ((((p775.drop p766.toNat).take p767.toNat) ++ ([((p776.getD p768.toNat (0, 0, 0, false, [])).1, 5, 0, false, [])] : List (Int × Int × Int × Bool × List Int))) : List (Int × Int × Int × Bool × List Int))).bind fun z784 =>
          some (.inr (.inl (p762, p763, p764, p765, (IntKind.wrap .i64 (p768 + (1 : Int))), p769, p770, p771, p772, p773, z783, z784, p776, p777, p778, p779)))
          else none
          else none
          else none
        else
          bif (decide (((p776.getD p768.toNat (0, 0, 0, false, [])).2.1) = (6 : Int))) then
            bif ((decide ((0 : Int) ≤ ((p776.getD p768.toNat (0, 0, 0, false, [])).1))) && (decide (((p776.getD p768.toNat (0, 0, 0, false, [])).1) < (p774.length : Int)))) then
            (some ((p774.set ((p776.getD p768.toNat (0, 0, 0, false, [])).1).toNat 1) : List Int)).bind fun z785 =>
            bif (p776.getD p768.toNat (0, 0, 0, false, [])).2.2.2.1 then
              bif ((decide ((0 : Int) ≤ ((p776.getD p768.toNat (0, 0, 0, false, [])).1))) && (decide (((p776.getD p768.toNat (0, 0, 0, false, [])).1) < (z785.length : Int)))) then
              (some ((z785.set ((p776.getD p768.toNat (0, 0, 0, false, [])).1).toNat 0) : List Int)).bind fun z786 =>
              bif ((decide ((0 : Int) ≤ p766)) && (decide ((p766 + p767) = (p775.length : Int)))) then
              bif (Nat.blt (((p775.drop p766.toNat).take p767.toNat).length + ([((p776.getD p768.toNat (0, 0, 0, false, [])).1, 7, 0, false, p763)] : List (Int × Int × Int × Bool × List Int)).length) 2513169434916) then
              (some ((((p775.drop p766.toNat).take p767.toNat) ++ ([((p776.getD p768.toNat (0, 0, 0, false, [])).1, 7, 0, false, p763)] : List (Int × Int × Int × Bool × List Int))) : List (Int × Int × Int × Bool × List Int))).bind fun z787 =>
              some (.inr (.inl (p762, p763, p764, p765, (IntKind.wrap .i64 (p768 + (1 : Int))), p769, p770, p771, p772, p773, z786, z787, p776, p777, p778, p779)))
              else none
              else none
              else none
            else
              bif ((decide ((0 : Int) ≤ p766)) && (decide ((p766 + p767) = (p775.length : Int)))) then
              bif (Nat.blt (((p775.drop p766.toNat).take p767.toNat).length + ([((p776.getD p768.toNat (0, 0, 0, false, [])).1, 7, 0, false, p763)] : List (Int × Int × Int × Bool × List Int)).length) 2513169434916) then
              (some ((((p775.drop p766.toNat).take p767.toNat) ++ ([((p776.getD p768.toNat (0, 0, 0, false, [])).1, 7, 0, false, p763)] : List (Int × Int × Int × Bool × List Int))) : List (Int × Int × Int × Bool × List Int))).bind fun z788 =>
              some (.inr (.inl (p762, p763, p764, p765, (IntKind.wrap .i64 (p768 + (1 : Int))), p769, p770, p771, p772, p773, z785, z788, p776, p777, p778, p779)))
              else none
              else none
            else none
          else
            f_laws_FnHomeGives.l2 n p762 p763 p764 p765 p766 p767 (IntKind.wrap .i64 (p768 + (1 : Int))) p769 p770 p771 p772 p773 p774 p775 p776 p777 p778 p779
      else none
    else
      some (.inr (.inr (p762, p763, p764, p765, p766, p767, p769, p770, p771, p772, p773, p774, p775, p777, p778, p779)))
noncomputable def f_laws_FnHomeGives.l3 : Nat → (List Int) → (List Int) → Int → Int → Int → Int → Bool → Int → Bool → Int → (List Int) → (List (Int × Int × Int × Bool × List Int)) → (List (Int × Int × Int × Bool × List Int)) → (List Int) → (List Bool) → (List (Int × Bool)) → Option ((Bool) ⊕ (List Int × List Int × Int × Int × Int × Bool × Int × Bool × Int × List Int × (List (Int × Int × Int × Bool × List Int)) × List Int × List Bool × (List (Int × Bool))))
  | 0, _, _, _, _, _, _, _, _, _, _, _, _, _, _, _, _ => none
  | n + 1, p794, p795, p796, p797, p798, p799, p800, p801, p802, p803, p804, p805, p806, p807, p808, p809 =>
    bif (decide (p798 < (p806.length : Int))) then
      bif ((decide ((0 : Int) ≤ p798)) && (decide (p798 < (p806.length : Int)))) then
      bif (decide (((p806.getD p798.toNat (0, 0, 0, false, [])).2.1) = (3 : Int))) then
        (f_laws_sameInts ((p806.getD p798.toNat (0, 0, 0, false, [])).2.2.2.2) p795).bind fun y810 =>
        bif (!y810) then
          some (.inl false)
        else
          bif ((decide ((0 : Int) ≤ ((p806.getD p798.toNat (0, 0, 0, false, [])).1))) && (decide (((p806.getD p798.toNat (0, 0, 0, false, [])).1) < (p804.length : Int)))) then
          (some ((p804.set ((p806.getD p798.toNat (0, 0, 0, false, [])).1).toNat 1) : List Int)).bind fun z811 =>
          bif (p806.getD p798.toNat (0, 0, 0, false, [])).2.2.2.1 then
            bif ((decide ((0 : Int) ≤ ((p806.getD p798.toNat (0, 0, 0, false, [])).1))) && (decide (((p806.getD p798.toNat (0, 0, 0, false, [])).1) < (z811.length : Int)))) then
            (some ((z811.set ((p806.getD p798.toNat (0, 0, 0, false, [])).1).toNat 2) : List Int)).bind fun z812 =>
            f_laws_FnHomeGives.l3 n p794 p795 p796 p797 (IntKind.wrap .i64 (p798 + (1 : Int))) p799 p800 p801 p802 p803 z812 p805 p806 p807 p808 p809
            else none
          else
            f_laws_FnHomeGives.l3 n p794 p795 p796 p797 (IntKind.wrap .i64 (p798 + (1 : Int))) p799 p800 p801 p802 p803 z811 p805 p806 p807 p808 p809
          else none
      else
        bif (decide (((p806.getD p798.toNat (0, 0, 0, false, [])).2.1) = (4 : Int))) then
          bif ((decide ((0 : Int) ≤ ((p806.getD p798.toNat (0, 0, 0, false, [])).1))) && (decide (((p806.getD p798.toNat (0, 0, 0, false, [])).1) < (p804.length : Int)))) then
          (some ((p804.set ((p806.getD p798.toNat (0, 0, 0, false, [])).1).toNat 0) : List Int)).bind fun z813 =>
          bif (Nat.blt (p805.length + ([((p806.getD p798.toNat (0, 0, 0, false, [])).1, 5, 0, false, [])] : List (Int × Int × Int × Bool × List Int)).length) 2513169434916) then
          (some ((p805 ++ ([((p806.getD p798.toNat (0, 0, 0, false, [])).1, 5, 0, false, [])] : List (Int × Int × Int × Bool × List Int))) : List (Int × Int × Int × Bool × List Int))).bind fun z814 =>
          f_laws_FnHomeGives.l3 n p794 p795 p796 p797 (IntKind.wrap .i64 (p798 + (1 : Int))) p799 p800 p801 p802 p803 z813 z814 p806 p807 p808 p809
          else none
          else none
        else
          bif (decide (((p806.getD p798.toNat (0, 0, 0, false, [])).2.1) = (6 : Int))) then
            bif ((decide ((0 : Int) ≤ ((p806.getD p798.toNat (0, 0, 0, false, [])).1))) && (decide (((p806.getD p798.toNat (0, 0, 0, false, [])).1) < (p804.length : Int)))) then
            (some ((p804.set ((p806.getD p798.toNat (0, 0, 0, false, [])).1).toNat 1) : List Int)).bind fun z815 =>
            bif (p806.getD p798.toNat (0, 0, 0, false, [])).2.2.2.1 then
              bif ((decide ((0 : Int) ≤ ((p806.getD p798.toNat (0, 0, 0, false, [])).1))) && (decide (((p806.getD p798.toNat (0, 0, 0, false, [])).1) < (z815.length : Int)))) then
              (some ((z815.set ((p806.getD p798.toNat (0, 0, 0, false, [])).1).toNat 0) : List Int)).bind fun z816 =>
              bif (Nat.blt (p805.length + ([((p806.getD p798.toNat (0, 0, 0, false, [])).1, 7, 0, false, p795)] : List (Int × Int × Int × Bool × List Int)).length) 2513169434916) then
              (some ((p805 ++ ([((p806.getD p798.toNat (0, 0, 0, false, [])).1, 7, 0, false, p795)] : List (Int × Int × Int × Bool × List Int))) : List (Int × Int × Int × Bool × List Int))).bind fun z817 =>
              f_laws_FnHomeGives.l3 n p794 p795 p796 p797 (IntKind.wrap .i64 (p798 + (1 : Int))) p799 p800 p801 p802 p803 z816 z817 p806 p807 p808 p809
              else none
              else none
            else
              bif (Nat.blt (p805.length + ([((p806.getD p798.toNat (0, 0, 0, false, [])).1, 7, 0, false, p795)] : List (Int × Int × Int × Bool × List Int)).length) 2513169434916) then
              (some ((p805 ++ ([((p806.getD p798.toNat (0, 0, 0, false, [])).1, 7, 0, false, p795)] : List (Int × Int × Int × Bool × List Int))) : List (Int × Int × Int × Bool × List Int))).bind fun z818 =>
              f_laws_FnHomeGives.l3 n p794 p795 p796 p797 (IntKind.wrap .i64 (p798 + (1 : Int))) p799 p800 p801 p802 p803 z815 z818 p806 p807 p808 p809
              else none
            else none
          else
            f_laws_FnHomeGives.l3 n p794 p795 p796 p797 (IntKind.wrap .i64 (p798 + (1 : Int))) p799 p800 p801 p802 p803 p804 p805 p806 p807 p808 p809
      else none
    else
      some (.inr (p794, p795, p796, p797, p799, p800, p801, p802, p803, p804, p805, p807, p808, p809))
noncomputable def f_laws_FnHomeGives.l4 : Nat → (List Int) → (List Int) → Int → Int → Int → Int → Int → Bool → Int → Bool → Int → (List Int) → (List (Int × Int × Int × Bool × List Int)) → (List Int) → (List Bool) → (List (Int × Bool)) → Option ((Bool) ⊕ (List Int × List Int × Int × Int × Int × Bool × Int × Bool × Int × List Int × List Int × List Bool × (List (Int × Bool))))
  | 0, _, _, _, _, _, _, _, _, _, _, _, _, _, _, _, _ => none
  | n + 1, p827, p828, p829, p830, p831, p832, p833, p834, p835, p836, p837, p838, p839, p840, p841, p842 =>
    bif (decide ((0 : Int) < p832)) then
      bif (decide ((0 : Int) < p832)) then
      bif (decide ((1 : Int) ≤ p832)) then
      (f_impl_HomeHear p840 p833 p841 p834 p835 p836 p837 p842 3 0 ((p839.getD (p831 + (0 : Int)).toNat (0, 0, 0, false, [])).1) ((p839.getD (p831 + (0 : Int)).toNat (0, 0, 0, false, [])).2.1) ((p839.getD (p831 + (0 : Int)).toNat (0, 0, 0, false, [])).2.2.1) ((p839.getD (p831 + (0 : Int)).toNat (0, 0, 0, false, [])).2.2.2.1) ((p839.getD (p831 + (0 : Int)).toNat (0, 0, 0, false, [])).2.2.2.2)).bind fun y843 =>
      (f_spec_HomeHear p840 p833 p841 p834 p835 p836 p837 p842 3 0 ((p839.getD (p831 + (0 : Int)).toNat (0, 0, 0, false, [])).1) ((p839.getD (p831 + (0 : Int)).toNat (0, 0, 0, false, [])).2.1) ((p839.getD (p831 + (0 : Int)).toNat (0, 0, 0, false, [])).2.2.1) ((p839.getD (p831 + (0 : Int)).toNat (0, 0, 0, false, [])).2.2.2.1) ((p839.getD (p831 + (0 : Int)).toNat (0, 0, 0, false, [])).2.2.2.2)).bind fun y844 =>
      (f_laws_sameHome y843.1 y843.2.1 y843.2.2.1 y843.2.2.2.1 y843.2.2.2.2.1 y843.2.2.2.2.2.1 y843.2.2.2.2.2.2.1 y843.2.2.2.2.2.2.2.1 y844.1 y844.2.1 y844.2.2.1 y844.2.2.2.1 y844.2.2.2.2.1 y844.2.2.2.2.2.1 y844.2.2.2.2.2.2.1 y844.2.2.2.2.2.2.2.1).bind fun y845 =>
      bif (!y845) then
        some (.inl false)
      else
        (f_laws_FnHomeGives.l2 N p827 p828 p829 p830 (p831 + (1 : Int)) (p832 - (1 : Int)) 0 y843.2.1 y843.2.2.2.1 y843.2.2.2.2.1 y843.2.2.2.2.2.1 y843.2.2.2.2.2.2.1 p838 p839 y843.2.2.2.2.2.2.2.2 y843.1 y843.2.2.1 y843.2.2.2.2.2.2.2.1).bind fun r846 =>
        cs r846 (fun a847 =>
          some (.inl a847)) (fun b848 =>
          cs b848 (fun a849 =>
            (f_laws_FnHomeGives.l3 N a849.1 a849.2.1 a849.2.2.1 a849.2.2.2.1 a849.2.2.2.2.1 a849.2.2.2.2.2.1 a849.2.2.2.2.2.2.1 a849.2.2.2.2.2.2.2.1 a849.2.2.2.2.2.2.2.2.1 a849.2.2.2.2.2.2.2.2.2.1 a849.2.2.2.2.2.2.2.2.2.2.1 a849.2.2.2.2.2.2.2.2.2.2.2.1 a849.2.2.2.2.2.2.2.2.2.2.2.2.1 a849.2.2.2.2.2.2.2.2.2.2.2.2.2.1 a849.2.2.2.2.2.2.2.2.2.2.2.2.2.2.1 a849.2.2.2.2.2.2.2.2.2.2.2.2.2.2.2).bind fun r851 =>
            cs r851 (fun a852 =>
              some (.inl a852)) (fun b853 =>
              none)) (fun b850 =>
            f_laws_FnHomeGives.l4 n b850.1 b850.2.1 b850.2.2.1 b850.2.2.2.1 b850.2.2.2.2.1 b850.2.2.2.2.2.1 b850.2.2.2.2.2.2.1 b850.2.2.2.2.2.2.2.1 b850.2.2.2.2.2.2.2.2.1 b850.2.2.2.2.2.2.2.2.2.1 b850.2.2.2.2.2.2.2.2.2.2.1 b850.2.2.2.2.2.2.2.2.2.2.2.1 b850.2.2.2.2.2.2.2.2.2.2.2.2.1 b850.2.2.2.2.2.2.2.2.2.2.2.2.2.1 b850.2.2.2.2.2.2.2.2.2.2.2.2.2.2.1 b850.2.2.2.2.2.2.2.2.2.2.2.2.2.2.2))
      else none
      else none
    else
      some (.inr (p827, p828, p829, p830, p833, p834, p835, p836, p837, p838, p840, p841, p842))
noncomputable def f_laws_FnHomeGives.l1 : Nat → (List Int) → (List Int) → Int → Int → Int → Bool → Int → Bool → Int → (List Int) → (List (Int × Int × Int × Bool × List Int)) → (List Int) → (List Bool) → (List (Int × Bool)) → Option ((Bool) ⊕ ((List Int × List Int × Int × Int × Int × Int × Int × Bool × Int × Bool × Int × List Int × (List (Int × Int × Int × Bool × List Int)) × List Int × List Bool × (List (Int × Bool))) ⊕ (List Int × List Int × Int × Int × Int × Bool × Int × Bool × Int × List Int × List Int × List Bool × (List (Int × Bool)))))
  | 0, _, _, _, _, _, _, _, _, _, _, _, _, _, _ => none
  | n + 1, p745, p746, p747, p748, p749, p750, p751, p752, p753, p754, p755, p756, p757, p758 =>
    bif (decide ((0 : Int) < (p755.length : Int))) then
      bif (decide ((0 : Int) < (p755.length : Int))) then
      bif (decide ((1 : Int) ≤ (p755.length : Int))) then
      (f_impl_HomeHear p756 p749 p757 p750 p751 p752 p753 p758 3 0 ((p755.getD 0 (0, 0, 0, false, [])).1) ((p755.getD 0 (0, 0, 0, false, [])).2.1) ((p755.getD 0 (0, 0, 0, false, [])).2.2.1) ((p755.getD 0 (0, 0, 0, false, [])).2.2.2.1) ((p755.getD 0 (0, 0, 0, false, [])).2.2.2.2)).bind fun y759 =>
      (f_spec_HomeHear p756 p749 p757 p750 p751 p752 p753 p758 3 0 ((p755.getD 0 (0, 0, 0, false, [])).1) ((p755.getD 0 (0, 0, 0, false, [])).2.1) ((p755.getD 0 (0, 0, 0, false, [])).2.2.1) ((p755.getD 0 (0, 0, 0, false, [])).2.2.2.1) ((p755.getD 0 (0, 0, 0, false, [])).2.2.2.2)).bind fun y760 =>
      (f_laws_sameHome y759.1 y759.2.1 y759.2.2.1 y759.2.2.2.1 y759.2.2.2.2.1 y759.2.2.2.2.2.1 y759.2.2.2.2.2.2.1 y759.2.2.2.2.2.2.2.1 y760.1 y760.2.1 y760.2.2.1 y760.2.2.2.1 y760.2.2.2.2.1 y760.2.2.2.2.2.1 y760.2.2.2.2.2.2.1 y760.2.2.2.2.2.2.2.1).bind fun y761 =>
      bif (!y761) then
        some (.inl false)
      else
        (f_laws_FnHomeGives.l2 N p745 p746 p747 p748 1 ((p755.length : Int) - (1 : Int)) 0 y759.2.1 y759.2.2.2.1 y759.2.2.2.2.1 y759.2.2.2.2.2.1 y759.2.2.2.2.2.2.1 p754 p755 y759.2.2.2.2.2.2.2.2 y759.1 y759.2.2.1 y759.2.2.2.2.2.2.2.1).bind fun r789 =>
        cs r789 (fun a790 =>
          some (.inl a790)) (fun b791 =>
          cs b791 (fun a792 =>
            (f_laws_FnHomeGives.l3 N a792.1 a792.2.1 a792.2.2.1 a792.2.2.2.1 a792.2.2.2.2.1 a792.2.2.2.2.2.1 a792.2.2.2.2.2.2.1 a792.2.2.2.2.2.2.2.1 a792.2.2.2.2.2.2.2.2.1 a792.2.2.2.2.2.2.2.2.2.1 a792.2.2.2.2.2.2.2.2.2.2.1 a792.2.2.2.2.2.2.2.2.2.2.2.1 a792.2.2.2.2.2.2.2.2.2.2.2.2.1 a792.2.2.2.2.2.2.2.2.2.2.2.2.2.1 a792.2.2.2.2.2.2.2.2.2.2.2.2.2.2.1 a792.2.2.2.2.2.2.2.2.2.2.2.2.2.2.2).bind fun r819 =>
            cs r819 (fun a820 =>
              some (.inl a820)) (fun b821 =>
              f_laws_FnHomeGives.l1 n b821.1 b821.2.1 b821.2.2.1 b821.2.2.2.1 b821.2.2.2.2.1 b821.2.2.2.2.2.1 b821.2.2.2.2.2.2.1 b821.2.2.2.2.2.2.2.1 b821.2.2.2.2.2.2.2.2.1 b821.2.2.2.2.2.2.2.2.2.1 b821.2.2.2.2.2.2.2.2.2.2.1 b821.2.2.2.2.2.2.2.2.2.2.2.1 b821.2.2.2.2.2.2.2.2.2.2.2.2.1 b821.2.2.2.2.2.2.2.2.2.2.2.2.2)) (fun b793 =>
            some (.inr (.inl (b793.1, b793.2.1, b793.2.2.1, b793.2.2.2.1, b793.2.2.2.2.1, b793.2.2.2.2.2.1, b793.2.2.2.2.2.2.1, b793.2.2.2.2.2.2.2.1, b793.2.2.2.2.2.2.2.2.1, b793.2.2.2.2.2.2.2.2.2.1, b793.2.2.2.2.2.2.2.2.2.2.1, b793.2.2.2.2.2.2.2.2.2.2.2.1, b793.2.2.2.2.2.2.2.2.2.2.2.2.1, b793.2.2.2.2.2.2.2.2.2.2.2.2.2.1, b793.2.2.2.2.2.2.2.2.2.2.2.2.2.2.1, b793.2.2.2.2.2.2.2.2.2.2.2.2.2.2.2)))))
      else none
      else none
    else
      some (.inr (.inr (p745, p746, p747, p748, p749, p750, p751, p752, p753, p754, p756, p757, p758)))
noncomputable def f_laws_FnHomeGives.l0 : Nat → (List Int) → Int → Int → Bool → Int → Bool → Int → (List Int) → (List Int) → (List Int) → (List Bool) → (List (Int × Bool)) → Option ((Bool) ⊕ (Unit))
  | 0, _, _, _, _, _, _, _, _, _, _, _, _ => none
  | n + 1, p731, p732, p733, p734, p735, p736, p737, p738, p739, p740, p741, p742 =>
    bif (decide (p732 < (30 : Int))) then
      (f_laws_at p731 p732).bind fun y743 =>
      bif (decide ((Int.tmod (IntKind.wrap .i64 (Int.tdiv y743 (3 : Int))) (2 : Int)) = (0 : Int))) then
        bif ((decide ((0 : Int) ≤ (Int.tmod y743 (3 : Int)))) && (decide ((Int.tmod y743 (3 : Int)) < (p738.length : Int)))) then
        bif (decide ((p738.getD (Int.tmod y743 (3 : Int)).toNat 0) = (2 : Int))) then
          bif ((decide ((0 : Int) ≤ (Int.tmod y743 (4 : Int)))) && (decide ((Int.tmod y743 (4 : Int)) < (p739.length : Int)))) then
          (some ((p739.set (Int.tmod y743 (4 : Int)).toNat p732) : List Int)).bind fun z744 =>
          f_laws_FnHomeGives.l0 n p731 (IntKind.wrap .i64 (p732 + (1 : Int))) p733 p734 p735 p736 p737 p738 z744 p740 p741 p742
          else none
        else
          (f_laws_FnHomeGives.l1 N p731 p739 p732 (Int.tmod y743 (3 : Int)) p733 p734 p735 p736 p737 p738 ([((Int.tmod y743 (3 : Int)), 2, 0, false, [])] : List (Int × Int × Int × Bool × List Int)) p740 p741 p742).bind fun r822 =>
          cs r822 (fun a823 =>
            some (.inl a823)) (fun b824 =>
            cs b824 (fun a825 =>
              (f_laws_FnHomeGives.l4 N a825.1 a825.2.1 a825.2.2.1 a825.2.2.2.1 a825.2.2.2.2.1 a825.2.2.2.2.2.1 a825.2.2.2.2.2.2.1 a825.2.2.2.2.2.2.2.1 a825.2.2.2.2.2.2.2.2.1 a825.2.2.2.2.2.2.2.2.2.1 a825.2.2.2.2.2.2.2.2.2.2.1 a825.2.2.2.2.2.2.2.2.2.2.2.1 a825.2.2.2.2.2.2.2.2.2.2.2.2.1 a825.2.2.2.2.2.2.2.2.2.2.2.2.2.1 a825.2.2.2.2.2.2.2.2.2.2.2.2.2.2.1 a825.2.2.2.2.2.2.2.2.2.2.2.2.2.2.2).bind fun r854 =>
              cs r854 (fun a855 =>
                some (.inl a855)) (fun b856 =>
                (f_laws_FnHomeGives.l5 N p731 b856.2.2.1 b856.2.2.2.1 0 0 0 b856.2.2.2.2.1 b856.2.2.2.2.2.1 b856.2.2.2.2.2.2.1 b856.2.2.2.2.2.2.2.1 b856.2.2.2.2.2.2.2.2.1 b856.2.2.2.2.2.2.2.2.2.1 p739 b856.2.2.2.2.2.2.2.2.2.2.1 b856.2.2.2.2.2.2.2.2.2.2.2.1 b856.2.2.2.2.2.2.2.2.2.2.2.2).bind fun r873 =>
                bif r873.2.2.2.2.2.2.1 then
                  some (.inl false)
                else
                  bif (decide ((1 : Int) < r873.2.2.2.2.1)) then
                    some (.inl false)
                  else
                    bif (decide (r873.2.2.2.2.1 = (1 : Int))) then
                      bif (decide ((1 : Int) < r873.2.2.2.1)) then
                        some (.inl false)
                      else
                        bif ((decide ((0 : Int) ≤ r873.2.2.1)) && (decide (r873.2.2.1 < (r873.2.2.2.2.2.2.2.2.2.2.1.length : Int)))) then
                        bif (decide ((r873.2.2.2.2.2.2.2.2.2.2.1.getD r873.2.2.1.toNat 0) = (0 : Int))) then
                          some (.inl false)
                        else
                          f_laws_FnHomeGives.l0 n r873.1 (IntKind.wrap .i64 (r873.2.1 + (1 : Int))) r873.2.2.2.2.2.1 r873.2.2.2.2.2.2.1 r873.2.2.2.2.2.2.2.1 r873.2.2.2.2.2.2.2.2.1 r873.2.2.2.2.2.2.2.2.2.1 r873.2.2.2.2.2.2.2.2.2.2.1 r873.2.2.2.2.2.2.2.2.2.2.2.1 r873.2.2.2.2.2.2.2.2.2.2.2.2.1 r873.2.2.2.2.2.2.2.2.2.2.2.2.2.1 r873.2.2.2.2.2.2.2.2.2.2.2.2.2.2
                        else none
                    else
                      bif ((decide ((0 : Int) ≤ r873.2.2.1)) && (decide (r873.2.2.1 < (r873.2.2.2.2.2.2.2.2.2.2.1.length : Int)))) then
                      bif (decide ((r873.2.2.2.2.2.2.2.2.2.2.1.getD r873.2.2.1.toNat 0) = (0 : Int))) then
                        some (.inl false)
                      else
                        f_laws_FnHomeGives.l0 n r873.1 (IntKind.wrap .i64 (r873.2.1 + (1 : Int))) r873.2.2.2.2.2.1 r873.2.2.2.2.2.2.1 r873.2.2.2.2.2.2.2.1 r873.2.2.2.2.2.2.2.2.1 r873.2.2.2.2.2.2.2.2.2.1 r873.2.2.2.2.2.2.2.2.2.2.1 r873.2.2.2.2.2.2.2.2.2.2.2.1 r873.2.2.2.2.2.2.2.2.2.2.2.2.1 r873.2.2.2.2.2.2.2.2.2.2.2.2.2.1 r873.2.2.2.2.2.2.2.2.2.2.2.2.2.2
                      else none)) (fun b826 =>
              (f_laws_FnHomeGives.l5 N p731 b826.2.2.1 b826.2.2.2.1 0 0 0 b826.2.2.2.2.1 b826.2.2.2.2.2.1 b826.2.2.2.2.2.2.1 b826.2.2.2.2.2.2.2.1 b826.2.2.2.2.2.2.2.2.1 b826.2.2.2.2.2.2.2.2.2.1 p739 b826.2.2.2.2.2.2.2.2.2.2.1 b826.2.2.2.2.2.2.2.2.2.2.2.1 b826.2.2.2.2.2.2.2.2.2.2.2.2).bind fun r874 =>
              bif r874.2.2.2.2.2.2.1 then
                some (.inl false)
              else
                bif (decide ((1 : Int) < r874.2.2.2.2.1)) then
                  some (.inl false)
                else
                  bif (decide (r874.2.2.2.2.1 = (1 : Int))) then
                    bif (decide ((1 : Int) < r874.2.2.2.1)) then
                      some (.inl false)
                    else
                      bif ((decide ((0 : Int) ≤ r874.2.2.1)) && (decide (r874.2.2.1 < (r874.2.2.2.2.2.2.2.2.2.2.1.length : Int)))) then
                      bif (decide ((r874.2.2.2.2.2.2.2.2.2.2.1.getD r874.2.2.1.toNat 0) = (0 : Int))) then
                        some (.inl false)
                      else
                        f_laws_FnHomeGives.l0 n r874.1 (IntKind.wrap .i64 (r874.2.1 + (1 : Int))) r874.2.2.2.2.2.1 r874.2.2.2.2.2.2.1 r874.2.2.2.2.2.2.2.1 r874.2.2.2.2.2.2.2.2.1 r874.2.2.2.2.2.2.2.2.2.1 r874.2.2.2.2.2.2.2.2.2.2.1 r874.2.2.2.2.2.2.2.2.2.2.2.1 r874.2.2.2.2.2.2.2.2.2.2.2.2.1 r874.2.2.2.2.2.2.2.2.2.2.2.2.2.1 r874.2.2.2.2.2.2.2.2.2.2.2.2.2.2
                      else none
                  else
                    bif ((decide ((0 : Int) ≤ r874.2.2.1)) && (decide (r874.2.2.1 < (r874.2.2.2.2.2.2.2.2.2.2.1.length : Int)))) then
                    bif (decide ((r874.2.2.2.2.2.2.2.2.2.2.1.getD r874.2.2.1.toNat 0) = (0 : Int))) then
                      some (.inl false)
                    else
                      f_laws_FnHomeGives.l0 n r874.1 (IntKind.wrap .i64 (r874.2.1 + (1 : Int))) r874.2.2.2.2.2.1 r874.2.2.2.2.2.2.1 r874.2.2.2.2.2.2.2.1 r874.2.2.2.2.2.2.2.2.1 r874.2.2.2.2.2.2.2.2.2.1 r874.2.2.2.2.2.2.2.2.2.2.1 r874.2.2.2.2.2.2.2.2.2.2.2.1 r874.2.2.2.2.2.2.2.2.2.2.2.2.1 r874.2.2.2.2.2.2.2.2.2.2.2.2.2.1 r874.2.2.2.2.2.2.2.2.2.2.2.2.2.2
                    else none))
        else none
      else
        bif ((decide ((0 : Int) ≤ (Int.tmod y743 (3 : Int)))) && (decide ((Int.tmod y743 (3 : Int)) < (p738.length : Int)))) then
        bif (decide ((p738.getD (Int.tmod y743 (3 : Int)).toNat 0) = (2 : Int))) then
          bif ((decide ((0 : Int) ≤ (Int.tmod y743 (4 : Int)))) && (decide ((Int.tmod y743 (4 : Int)) < (p739.length : Int)))) then
          (some ((p739.set (Int.tmod y743 (4 : Int)).toNat p732) : List Int)).bind fun z875 =>
          f_laws_FnHomeGives.l0 n p731 (IntKind.wrap .i64 (p732 + (1 : Int))) p733 p734 p735 p736 p737 p738 z875 p740 p741 p742
          else none
        else
          (f_laws_FnHomeGives.l1 N p731 p739 p732 (Int.tmod y743 (3 : Int)) p733 p734 p735 p736 p737 p738 ([((Int.tmod y743 (3 : Int)), 1, 0, false, [])] : List (Int × Int × Int × Bool × List Int)) p740 p741 p742).bind fun r876 =>
          cs r876 (fun a877 =>
            some (.inl a877)) (fun b878 =>
            cs b878 (fun a879 =>
              (f_laws_FnHomeGives.l4 N a879.1 a879.2.1 a879.2.2.1 a879.2.2.2.1 a879.2.2.2.2.1 a879.2.2.2.2.2.1 a879.2.2.2.2.2.2.1 a879.2.2.2.2.2.2.2.1 a879.2.2.2.2.2.2.2.2.1 a879.2.2.2.2.2.2.2.2.2.1 a879.2.2.2.2.2.2.2.2.2.2.1 a879.2.2.2.2.2.2.2.2.2.2.2.1 a879.2.2.2.2.2.2.2.2.2.2.2.2.1 a879.2.2.2.2.2.2.2.2.2.2.2.2.2.1 a879.2.2.2.2.2.2.2.2.2.2.2.2.2.2.1 a879.2.2.2.2.2.2.2.2.2.2.2.2.2.2.2).bind fun r881 =>
              cs r881 (fun a882 =>
                some (.inl a882)) (fun b883 =>
                (f_laws_FnHomeGives.l5 N p731 b883.2.2.1 b883.2.2.2.1 0 0 0 b883.2.2.2.2.1 b883.2.2.2.2.2.1 b883.2.2.2.2.2.2.1 b883.2.2.2.2.2.2.2.1 b883.2.2.2.2.2.2.2.2.1 b883.2.2.2.2.2.2.2.2.2.1 p739 b883.2.2.2.2.2.2.2.2.2.2.1 b883.2.2.2.2.2.2.2.2.2.2.2.1 b883.2.2.2.2.2.2.2.2.2.2.2.2).bind fun r884 =>
                bif r884.2.2.2.2.2.2.1 then
                  some (.inl false)
                else
                  bif (decide ((1 : Int) < r884.2.2.2.2.1)) then
                    some (.inl false)
                  else
                    bif (decide (r884.2.2.2.2.1 = (1 : Int))) then
                      bif (decide ((1 : Int) < r884.2.2.2.1)) then
                        some (.inl false)
                      else
                        bif ((decide ((0 : Int) ≤ r884.2.2.1)) && (decide (r884.2.2.1 < (r884.2.2.2.2.2.2.2.2.2.2.1.length : Int)))) then
                        bif (decide ((r884.2.2.2.2.2.2.2.2.2.2.1.getD r884.2.2.1.toNat 0) = (0 : Int))) then
                          some (.inl false)
                        else
                          f_laws_FnHomeGives.l0 n r884.1 (IntKind.wrap .i64 (r884.2.1 + (1 : Int))) r884.2.2.2.2.2.1 r884.2.2.2.2.2.2.1 r884.2.2.2.2.2.2.2.1 r884.2.2.2.2.2.2.2.2.1 r884.2.2.2.2.2.2.2.2.2.1 r884.2.2.2.2.2.2.2.2.2.2.1 r884.2.2.2.2.2.2.2.2.2.2.2.1 r884.2.2.2.2.2.2.2.2.2.2.2.2.1 r884.2.2.2.2.2.2.2.2.2.2.2.2.2.1 r884.2.2.2.2.2.2.2.2.2.2.2.2.2.2
                        else none
                    else
                      bif ((decide ((0 : Int) ≤ r884.2.2.1)) && (decide (r884.2.2.1 < (r884.2.2.2.2.2.2.2.2.2.2.1.length : Int)))) then
                      bif (decide ((r884.2.2.2.2.2.2.2.2.2.2.1.getD r884.2.2.1.toNat 0) = (0 : Int))) then
                        some (.inl false)
                      else
                        f_laws_FnHomeGives.l0 n r884.1 (IntKind.wrap .i64 (r884.2.1 + (1 : Int))) r884.2.2.2.2.2.1 r884.2.2.2.2.2.2.1 r884.2.2.2.2.2.2.2.1 r884.2.2.2.2.2.2.2.2.1 r884.2.2.2.2.2.2.2.2.2.1 r884.2.2.2.2.2.2.2.2.2.2.1 r884.2.2.2.2.2.2.2.2.2.2.2.1 r884.2.2.2.2.2.2.2.2.2.2.2.2.1 r884.2.2.2.2.2.2.2.2.2.2.2.2.2.1 r884.2.2.2.2.2.2.2.2.2.2.2.2.2.2
                      else none)) (fun b880 =>
              (f_laws_FnHomeGives.l5 N p731 b880.2.2.1 b880.2.2.2.1 0 0 0 b880.2.2.2.2.1 b880.2.2.2.2.2.1 b880.2.2.2.2.2.2.1 b880.2.2.2.2.2.2.2.1 b880.2.2.2.2.2.2.2.2.1 b880.2.2.2.2.2.2.2.2.2.1 p739 b880.2.2.2.2.2.2.2.2.2.2.1 b880.2.2.2.2.2.2.2.2.2.2.2.1 b880.2.2.2.2.2.2.2.2.2.2.2.2).bind fun r885 =>
              bif r885.2.2.2.2.2.2.1 then
                some (.inl false)
              else
                bif (decide ((1 : Int) < r885.2.2.2.2.1)) then
                  some (.inl false)
                else
                  bif (decide (r885.2.2.2.2.1 = (1 : Int))) then
                    bif (decide ((1 : Int) < r885.2.2.2.1)) then
                      some (.inl false)
                    else
                      bif ((decide ((0 : Int) ≤ r885.2.2.1)) && (decide (r885.2.2.1 < (r885.2.2.2.2.2.2.2.2.2.2.1.length : Int)))) then
                      bif (decide ((r885.2.2.2.2.2.2.2.2.2.2.1.getD r885.2.2.1.toNat 0) = (0 : Int))) then
                        some (.inl false)
                      else
                        f_laws_FnHomeGives.l0 n r885.1 (IntKind.wrap .i64 (r885.2.1 + (1 : Int))) r885.2.2.2.2.2.1 r885.2.2.2.2.2.2.1 r885.2.2.2.2.2.2.2.1 r885.2.2.2.2.2.2.2.2.1 r885.2.2.2.2.2.2.2.2.2.1 r885.2.2.2.2.2.2.2.2.2.2.1 r885.2.2.2.2.2.2.2.2.2.2.2.1 r885.2.2.2.2.2.2.2.2.2.2.2.2.1 r885.2.2.2.2.2.2.2.2.2.2.2.2.2.1 r885.2.2.2.2.2.2.2.2.2.2.2.2.2.2
                      else none
                  else
                    bif ((decide ((0 : Int) ≤ r885.2.2.1)) && (decide (r885.2.2.1 < (r885.2.2.2.2.2.2.2.2.2.2.1.length : Int)))) then
                    bif (decide ((r885.2.2.2.2.2.2.2.2.2.2.1.getD r885.2.2.1.toNat 0) = (0 : Int))) then
                      some (.inl false)
                    else
                      f_laws_FnHomeGives.l0 n r885.1 (IntKind.wrap .i64 (r885.2.1 + (1 : Int))) r885.2.2.2.2.2.1 r885.2.2.2.2.2.2.1 r885.2.2.2.2.2.2.2.1 r885.2.2.2.2.2.2.2.2.1 r885.2.2.2.2.2.2.2.2.2.1 r885.2.2.2.2.2.2.2.2.2.2.1 r885.2.2.2.2.2.2.2.2.2.2.2.1 r885.2.2.2.2.2.2.2.2.2.2.2.2.1 r885.2.2.2.2.2.2.2.2.2.2.2.2.2.1 r885.2.2.2.2.2.2.2.2.2.2.2.2.2.2
                    else none))
        else none
    else
      some (.inr ())
noncomputable def f_laws_FnHomeGives (x0 : List Int) : Option (Bool) :=
  (f_laws_big x0).bind fun y729 =>
  bif y729 then
    some true
  else
    (f_impl_HomeNew 3).bind fun y730 =>
    (f_laws_FnHomeGives.l0 N x0 0 y730.2.1 y730.2.2.2.1 y730.2.2.2.2.1 y730.2.2.2.2.2.1 y730.2.2.2.2.2.2.1 ([0, 0, 0] : List Int) (List.replicate 4 0) y730.1 y730.2.2.1 y730.2.2.2.2.2.2.2).bind fun r886 =>
    cs r886 (fun a887 =>
      some a887) (fun b888 =>
      some true)
noncomputable def C4 : Con := ⟨[(.B, false, [(.sl R0)])], [(false, [.bool])], [(.sl R0)], [.bool], fun (p : List Int) => f_laws_FnHomeGives p⟩
noncomputable abbrev f_laws_FnHomeGives.l0.u (n : Nat) := fun (p : List Int × Int × Int × Bool × Int × Bool × Int × List Int × List Int × List Int × List Bool × (List (Int × Bool))) => f_laws_FnHomeGives.l0 n p.1 p.2.1 p.2.2.1 p.2.2.2.1 p.2.2.2.2.1 p.2.2.2.2.2.1 p.2.2.2.2.2.2.1 p.2.2.2.2.2.2.2.1 p.2.2.2.2.2.2.2.2.1 p.2.2.2.2.2.2.2.2.2.1 p.2.2.2.2.2.2.2.2.2.2.1 p.2.2.2.2.2.2.2.2.2.2.2
noncomputable def f_laws_FnHomeGives.l0.c : LoopCon := ⟨1000, 6, [0, 3, 4, 5, 6], ⟨[(0, .bor none R0 []), (3, .ptr 1000 0), (4, .ref 1001 [] none), (5, .ref 1002 [] none), (6, .int .i64 0)], [(1000, .box [.ref 1003 [] none, .int .i64 0, .ref 1004 [] none, .bool false, .int .i64 0, .bool false, .int .i64 0, .ref 1005 [] none]), (1001, .row R1 []), (1002, .row R1 []), (1003, .row R1 []), (1004, .row R2 []), (1005, .row R3 [])], 1006⟩, [(.sl R0), (.int .i64), (.int .i64), .bool, (.int .i64), .bool, (.int .i64), (.sl R1), (.sl R1), (.sl R1), (.sl R2), (.sl R3)], [⟨.ret, [2], ⟨[(2, .bool false)], [], 1000⟩, [.bool]⟩, ⟨.exit 0, [], ⟨[], [], 1000⟩, []⟩], f_laws_FnHomeGives.l0.u N⟩
noncomputable abbrev f_laws_FnHomeGives.l1.u (n : Nat) := fun (p : List Int × List Int × Int × Int × Int × Bool × Int × Bool × Int × List Int × (List (Int × Int × Int × Bool × List Int)) × List Int × List Bool × (List (Int × Bool))) => f_laws_FnHomeGives.l1 n p.1 p.2.1 p.2.2.1 p.2.2.2.1 p.2.2.2.2.1 p.2.2.2.2.2.1 p.2.2.2.2.2.2.1 p.2.2.2.2.2.2.2.1 p.2.2.2.2.2.2.2.2.1 p.2.2.2.2.2.2.2.2.2.1 p.2.2.2.2.2.2.2.2.2.2.1 p.2.2.2.2.2.2.2.2.2.2.2.1 p.2.2.2.2.2.2.2.2.2.2.2.2.1 p.2.2.2.2.2.2.2.2.2.2.2.2.2
noncomputable def f_laws_FnHomeGives.l1.c : LoopCon := ⟨1000, 6, [0, 3, 4, 5, 6, 8, 10], ⟨[(0, .bor (some 901) R0 []), (3, .ptr 1000 0), (4, .ref 1001 [] none), (5, .bor (some 900) R1 []), (6, .int .i64 0), (8, .int .i64 0), (10, .ref 1002 [] none)], [(1000, .box [.ref 1003 [] none, .int .i64 0, .ref 1004 [] none, .bool false, .int .i64 0, .bool false, .int .i64 0, .ref 1005 [] none]), (1001, .row R1 []), (1002, .row R5 []), (1003, .row R1 []), (1004, .row R2 []), (1005, .row R3 [])], 1006⟩, [(.sl R0), (.sl R1), (.int .i64), (.int .i64), (.int .i64), .bool, (.int .i64), .bool, (.int .i64), (.sl R1), (.sl R5), (.sl R1), (.sl R2), (.sl R3)], [⟨.ret, [2], ⟨[(2, .bool false)], [], 1000⟩, [.bool]⟩, ⟨.normal, [0, 3, 4, 5, 6, 8, 10], ⟨[(0, .bor (some 901) R0 []), (3, .ptr 1000 0), (4, .ref 1001 [] none), (5, .bor (some 900) R1 []), (6, .int .i64 0), (8, .int .i64 0), (10, .ref 1002 [] (some (0, 0)))], [(1000, .box [.ref 1003 [] none, .int .i64 0, .ref 1004 [] none, .bool false, .int .i64 0, .bool false, .int .i64 0, .ref 1005 [] none]), (1001, .row R1 []), (1002, .row R5 []), (1003, .row R1 []), (1004, .row R2 []), (1005, .row R3 [])], 1006⟩, [(.sl R0), (.sl R1), (.int .i64), (.int .i64), (.int .i64), (.int .i64), (.int .i64), .bool, (.int .i64), .bool, (.int .i64), (.sl R1), (.sl R5), (.sl R1), (.sl R2), (.sl R3)]⟩, ⟨.exit 2, [0, 3, 4, 5, 6, 8], ⟨[(0, .bor (some 901) R0 []), (3, .ptr 1000 0), (4, .ref 1001 [] none), (5, .bor (some 900) R1 []), (6, .int .i64 0), (8, .int .i64 0)], [(1000, .box [.ref 1002 [] none, .int .i64 0, .ref 1003 [] none, .bool false, .int .i64 0, .bool false, .int .i64 0, .ref 1004 [] none]), (1001, .row R1 []), (1002, .row R1 []), (1003, .row R2 []), (1004, .row R3 [])], 1005⟩, [(.sl R0), (.sl R1), (.int .i64), (.int .i64), (.int .i64), .bool, (.int .i64), .bool, (.int .i64), (.sl R1), (.sl R1), (.sl R2), (.sl R3)]⟩], f_laws_FnHomeGives.l1.u N⟩
noncomputable abbrev f_laws_FnHomeGives.l2.u (n : Nat) := fun (p : List Int × List Int × Int × Int × Int × Int × Int × Int × Bool × Int × Bool × Int × List Int × (List (Int × Int × Int × Bool × List Int)) × (List (Int × Int × Int × Bool × List Int)) × List Int × List Bool × (List (Int × Bool))) => f_laws_FnHomeGives.l2 n p.1 p.2.1 p.2.2.1 p.2.2.2.1 p.2.2.2.2.1 p.2.2.2.2.2.1 p.2.2.2.2.2.2.1 p.2.2.2.2.2.2.2.1 p.2.2.2.2.2.2.2.2.1 p.2.2.2.2.2.2.2.2.2.1 p.2.2.2.2.2.2.2.2.2.2.1 p.2.2.2.2.2.2.2.2.2.2.2.1 p.2.2.2.2.2.2.2.2.2.2.2.2.1 p.2.2.2.2.2.2.2.2.2.2.2.2.2.1 p.2.2.2.2.2.2.2.2.2.2.2.2.2.2.1 p.2.2.2.2.2.2.2.2.2.2.2.2.2.2.2.1 p.2.2.2.2.2.2.2.2.2.2.2.2.2.2.2.2.1 p.2.2.2.2.2.2.2.2.2.2.2.2.2.2.2.2.2
noncomputable def f_laws_FnHomeGives.l2.c : LoopCon := ⟨1000, 6, [0, 3, 4, 5, 6, 8, 10, 13, 16], ⟨[(0, .bor (some 901) R0 []), (3, .ptr 1000 0), (4, .ref 1001 [] none), (5, .bor (some 900) R1 []), (6, .int .i64 0), (8, .int .i64 0), (10, .ref 1002 [] (some (0, 0))), (13, .ref 1003 [] none), (16, .int .i64 0)], [(1000, .box [.ref 1004 [] none, .int .i64 0, .ref 1005 [] none, .bool false, .int .i64 0, .bool false, .int .i64 0, .ref 1006 [] none]), (1001, .row R1 []), (1002, .row R5 []), (1003, .row R4 []), (1004, .row R1 []), (1005, .row R2 []), (1006, .row R3 [])], 1007⟩, [(.sl R0), (.sl R1), (.int .i64), (.int .i64), (.int .i64), (.int .i64), (.int .i64), (.int .i64), .bool, (.int .i64), .bool, (.int .i64), (.sl R1), (.sl R5), (.sl R4), (.sl R1), (.sl R2), (.sl R3)], [⟨.ret, [2], ⟨[(2, .bool false)], [], 1000⟩, [.bool]⟩, ⟨.normal, [0, 3, 4, 5, 6, 8, 10, 13, 16], ⟨[(0, .bor (some 901) R0 []), (3, .ptr 1000 0), (4, .ref 1001 [] none), (5, .bor (some 900) R1 []), (6, .int .i64 0), (8, .int .i64 0), (10, .ref 1002 [] none), (13, .ref 1003 [] none), (16, .int .i64 0)], [(1000, .box [.ref 1004 [] none, .int .i64 0, .ref 1005 [] none, .bool false, .int .i64 0, .bool false, .int .i64 0, .ref 1006 [] none]), (1001, .row R1 []), (1002, .row R5 []), (1003, .row R4 []), (1004, .row R1 []), (1005, .row R2 []), (1006, .row R3 [])], 1007⟩, [(.sl R0), (.sl R1), (.int .i64), (.int .i64), (.int .i64), (.int .i64), .bool, (.int .i64), .bool, (.int .i64), (.sl R1), (.sl R5), (.sl R4), (.sl R1), (.sl R2), (.sl R3)]⟩, ⟨.exit 4, [0, 3, 4, 5, 6, 8, 10], ⟨[(0, .bor (some 901) R0 []), (3, .ptr 1000 0), (4, .ref 1001 [] none), (5, .bor (some 900) R1 []), (6, .int .i64 0), (8, .int .i64 0), (10, .ref 1002 [] (some (0, 0)))], [(1000, .box [.ref 1003 [] none, .int .i64 0, .ref 1004 [] none, .bool false, .int .i64 0, .bool false, .int .i64 0, .ref 1005 [] none]), (1001, .row R1 []), (1002, .row R5 []), (1003, .row R1 []), (1004, .row R2 []), (1005, .row R3 [])], 1006⟩, [(.sl R0), (.sl R1), (.int .i64), (.int .i64), (.int .i64), (.int .i64), (.int .i64), .bool, (.int .i64), .bool, (.int .i64), (.sl R1), (.sl R5), (.sl R1), (.sl R2), (.sl R3)]⟩], f_laws_FnHomeGives.l2.u N⟩
noncomputable abbrev f_laws_FnHomeGives.l3.u (n : Nat) := fun (p : List Int × List Int × Int × Int × Int × Int × Bool × Int × Bool × Int × List Int × (List (Int × Int × Int × Bool × List Int)) × (List (Int × Int × Int × Bool × List Int)) × List Int × List Bool × (List (Int × Bool))) => f_laws_FnHomeGives.l3 n p.1 p.2.1 p.2.2.1 p.2.2.2.1 p.2.2.2.2.1 p.2.2.2.2.2.1 p.2.2.2.2.2.2.1 p.2.2.2.2.2.2.2.1 p.2.2.2.2.2.2.2.2.1 p.2.2.2.2.2.2.2.2.2.1 p.2.2.2.2.2.2.2.2.2.2.1 p.2.2.2.2.2.2.2.2.2.2.2.1 p.2.2.2.2.2.2.2.2.2.2.2.2.1 p.2.2.2.2.2.2.2.2.2.2.2.2.2.1 p.2.2.2.2.2.2.2.2.2.2.2.2.2.2.1 p.2.2.2.2.2.2.2.2.2.2.2.2.2.2.2
noncomputable def f_laws_FnHomeGives.l3.c : LoopCon := ⟨1000, 6, [0, 3, 4, 5, 6, 8, 10, 13, 16], ⟨[(0, .bor (some 901) R0 []), (3, .ptr 1000 0), (4, .ref 1001 [] none), (5, .bor (some 900) R1 []), (6, .int .i64 0), (8, .int .i64 0), (10, .ref 1002 [] none), (13, .ref 1003 [] none), (16, .int .i64 0)], [(1000, .box [.ref 1004 [] none, .int .i64 0, .ref 1005 [] none, .bool false, .int .i64 0, .bool false, .int .i64 0, .ref 1006 [] none]), (1001, .row R1 []), (1002, .row R5 []), (1003, .row R4 []), (1004, .row R1 []), (1005, .row R2 []), (1006, .row R3 [])], 1007⟩, [(.sl R0), (.sl R1), (.int .i64), (.int .i64), (.int .i64), (.int .i64), .bool, (.int .i64), .bool, (.int .i64), (.sl R1), (.sl R5), (.sl R4), (.sl R1), (.sl R2), (.sl R3)], [⟨.ret, [2], ⟨[(2, .bool false)], [], 1000⟩, [.bool]⟩, ⟨.exit 4, [0, 3, 4, 5, 6, 8, 10], ⟨[(0, .bor (some 901) R0 []), (3, .ptr 1000 0), (4, .ref 1001 [] none), (5, .bor (some 900) R1 []), (6, .int .i64 0), (8, .int .i64 0), (10, .ref 1002 [] none)], [(1000, .box [.ref 1003 [] none, .int .i64 0, .ref 1004 [] none, .bool false, .int .i64 0, .bool false, .int .i64 0, .ref 1005 [] none]), (1001, .row R1 []), (1002, .row R5 []), (1003, .row R1 []), (1004, .row R2 []), (1005, .row R3 [])], 1006⟩, [(.sl R0), (.sl R1), (.int .i64), (.int .i64), (.int .i64), .bool, (.int .i64), .bool, (.int .i64), (.sl R1), (.sl R5), (.sl R1), (.sl R2), (.sl R3)]⟩], f_laws_FnHomeGives.l3.u N⟩
noncomputable abbrev f_laws_FnHomeGives.l4.u (n : Nat) := fun (p : List Int × List Int × Int × Int × Int × Int × Int × Bool × Int × Bool × Int × List Int × (List (Int × Int × Int × Bool × List Int)) × List Int × List Bool × (List (Int × Bool))) => f_laws_FnHomeGives.l4 n p.1 p.2.1 p.2.2.1 p.2.2.2.1 p.2.2.2.2.1 p.2.2.2.2.2.1 p.2.2.2.2.2.2.1 p.2.2.2.2.2.2.2.1 p.2.2.2.2.2.2.2.2.1 p.2.2.2.2.2.2.2.2.2.1 p.2.2.2.2.2.2.2.2.2.2.1 p.2.2.2.2.2.2.2.2.2.2.2.1 p.2.2.2.2.2.2.2.2.2.2.2.2.1 p.2.2.2.2.2.2.2.2.2.2.2.2.2.1 p.2.2.2.2.2.2.2.2.2.2.2.2.2.2.1 p.2.2.2.2.2.2.2.2.2.2.2.2.2.2.2
noncomputable def f_laws_FnHomeGives.l4.c : LoopCon := ⟨1000, 6, [0, 3, 4, 5, 6, 8, 10], ⟨[(0, .bor (some 901) R0 []), (3, .ptr 1000 0), (4, .ref 1001 [] none), (5, .bor (some 900) R1 []), (6, .int .i64 0), (8, .int .i64 0), (10, .ref 1002 [] (some (0, 0)))], [(1000, .box [.ref 1003 [] none, .int .i64 0, .ref 1004 [] none, .bool false, .int .i64 0, .bool false, .int .i64 0, .ref 1005 [] none]), (1001, .row R1 []), (1002, .row R5 []), (1003, .row R1 []), (1004, .row R2 []), (1005, .row R3 [])], 1006⟩, [(.sl R0), (.sl R1), (.int .i64), (.int .i64), (.int .i64), (.int .i64), (.int .i64), .bool, (.int .i64), .bool, (.int .i64), (.sl R1), (.sl R5), (.sl R1), (.sl R2), (.sl R3)], [⟨.ret, [2], ⟨[(2, .bool false)], [], 1000⟩, [.bool]⟩, ⟨.exit 2, [0, 3, 4, 5, 6, 8], ⟨[(0, .bor (some 901) R0 []), (3, .ptr 1000 0), (4, .ref 1001 [] none), (5, .bor (some 900) R1 []), (6, .int .i64 0), (8, .int .i64 0)], [(1000, .box [.ref 1002 [] none, .int .i64 0, .ref 1003 [] none, .bool false, .int .i64 0, .bool false, .int .i64 0, .ref 1004 [] none]), (1001, .row R1 []), (1002, .row R1 []), (1003, .row R2 []), (1004, .row R3 [])], 1005⟩, [(.sl R0), (.sl R1), (.int .i64), (.int .i64), (.int .i64), .bool, (.int .i64), .bool, (.int .i64), (.sl R1), (.sl R1), (.sl R2), (.sl R3)]⟩], f_laws_FnHomeGives.l4.u N⟩
noncomputable abbrev f_laws_FnHomeGives.l5.u (n : Nat) := fun (p : List Int × Int × Int × Int × Int × Int × Int × Bool × Int × Bool × Int × List Int × List Int × List Int × List Bool × (List (Int × Bool))) => f_laws_FnHomeGives.l5 n p.1 p.2.1 p.2.2.1 p.2.2.2.1 p.2.2.2.2.1 p.2.2.2.2.2.1 p.2.2.2.2.2.2.1 p.2.2.2.2.2.2.2.1 p.2.2.2.2.2.2.2.2.1 p.2.2.2.2.2.2.2.2.2.1 p.2.2.2.2.2.2.2.2.2.2.1 p.2.2.2.2.2.2.2.2.2.2.2.1 p.2.2.2.2.2.2.2.2.2.2.2.2.1 p.2.2.2.2.2.2.2.2.2.2.2.2.2.1 p.2.2.2.2.2.2.2.2.2.2.2.2.2.2.1 p.2.2.2.2.2.2.2.2.2.2.2.2.2.2.2
noncomputable def f_laws_FnHomeGives.l5.c : LoopCon := ⟨1000, 6, [0, 3, 4, 5, 6, 8, 18, 19, 20], ⟨[(0, .bor none R0 []), (3, .ptr 1000 0), (4, .ref 1001 [] none), (5, .ref 1002 [] none), (6, .int .i64 0), (8, .int .i64 0), (18, .int .i64 0), (19, .int .i64 0), (20, .int .i64 0)], [(1000, .box [.ref 1003 [] none, .int .i64 0, .ref 1004 [] none, .bool false, .int .i64 0, .bool false, .int .i64 0, .ref 1005 [] none]), (1001, .row R1 []), (1002, .row R1 []), (1003, .row R1 []), (1004, .row R2 []), (1005, .row R3 [])], 1006⟩, [(.sl R0), (.int .i64), (.int .i64), (.int .i64), (.int .i64), (.int .i64), (.int .i64), .bool, (.int .i64), .bool, (.int .i64), (.sl R1), (.sl R1), (.sl R1), (.sl R2), (.sl R3)], [⟨.exit 7, [0, 3, 4, 5, 6, 8, 18, 19], ⟨[(0, .bor none R0 []), (3, .ptr 1000 0), (4, .ref 1001 [] none), (5, .ref 1002 [] none), (6, .int .i64 0), (8, .int .i64 0), (18, .int .i64 0), (19, .int .i64 0)], [(1000, .box [.ref 1003 [] none, .int .i64 0, .ref 1004 [] none, .bool false, .int .i64 0, .bool false, .int .i64 0, .ref 1005 [] none]), (1001, .row R1 []), (1002, .row R1 []), (1003, .row R1 []), (1004, .row R2 []), (1005, .row R3 [])], 1006⟩, [(.sl R0), (.int .i64), (.int .i64), (.int .i64), (.int .i64), (.int .i64), .bool, (.int .i64), .bool, (.int .i64), (.sl R1), (.sl R1), (.sl R1), (.sl R2), (.sl R3)]⟩], f_laws_FnHomeGives.l5.u N⟩
noncomputable abbrev K4 : Cons := [(7, C7), (8, C8), (14, C14), (15, C15), (16, C16), (17, C17), (18, C18)]
noncomputable abbrev L4 : List (Nat × Loops) := [(4, [(7, f_laws_FnHomeGives.l0.c), (17, f_laws_FnHomeGives.l1.c), (26, f_laws_FnHomeGives.l2.c), (26, f_laws_FnHomeGives.l3.c), (17, f_laws_FnHomeGives.l4.c), (46, f_laws_FnHomeGives.l5.c)])]
abbrev Q4 : List (Nat × List (Int × Nat) × Nat) := []
noncomputable abbrev X4 : Nat → Ctx := ctxOf tb K4 L4 Q4
theorem f_laws_FnHomeGives.l0.ok : ∀ n p, f_laws_FnHomeGives.l0.u n p = iterD (roundOf fs X4 6 4 7 false f_laws_FnHomeGives.l0.c) n p :=
  iter_of (l := f_laws_FnHomeGives.l0.u) (fun _ => rfl) (fun n p => by kernel_rfl)
theorem f_laws_FnHomeGives.l1.ok : ∀ n p, f_laws_FnHomeGives.l1.u n p = iterD (roundOf fs X4 6 4 17 false f_laws_FnHomeGives.l1.c) n p :=
  iter_of (l := f_laws_FnHomeGives.l1.u) (fun _ => rfl) (fun n p => by kernel_rfl)
theorem f_laws_FnHomeGives.l2.ok : ∀ n p, f_laws_FnHomeGives.l2.u n p = iterD (roundOf fs X4 6 4 26 false f_laws_FnHomeGives.l2.c) n p :=
  iter_of (l := f_laws_FnHomeGives.l2.u) (fun _ => rfl) (fun n p => by kernel_rfl)
theorem f_laws_FnHomeGives.l3.ok : ∀ n p, f_laws_FnHomeGives.l3.u n p = iterD (roundOf fs X4 6 4 26 false f_laws_FnHomeGives.l3.c) n p :=
  iter_of (l := f_laws_FnHomeGives.l3.u) (fun _ => rfl) (fun n p => by kernel_rfl)
theorem f_laws_FnHomeGives.l4.ok : ∀ n p, f_laws_FnHomeGives.l4.u n p = iterD (roundOf fs X4 6 4 17 false f_laws_FnHomeGives.l4.c) n p :=
  iter_of (l := f_laws_FnHomeGives.l4.u) (fun _ => rfl) (fun n p => by kernel_rfl)
theorem f_laws_FnHomeGives.l5.ok : ∀ n p, f_laws_FnHomeGives.l5.u n p = iterD (roundOf fs X4 6 4 46 false f_laws_FnHomeGives.l5.c) n p :=
  iter_of (l := f_laws_FnHomeGives.l5.u) (fun _ => rfl) (fun n p => by kernel_rfl)
theorem E4 : ∀ x, funRun fs X4 6 4 C4 x = C4.fn x := fun x => by kernel_rfl
theorem B4 : ConB Try.prog 4 C4 := ConB.make FS MIX TY (cons := K4) (L := L4) (ptrs := Q4) ⟨S7, S8, S14, S15, S16, S17, S18, trivial⟩ trivial ⟨⟨⟨N, fun p => f_laws_FnHomeGives.l0.ok N p⟩, ⟨N, fun p => f_laws_FnHomeGives.l1.ok N p⟩, ⟨N, fun p => f_laws_FnHomeGives.l2.ok N p⟩, ⟨N, fun p => f_laws_FnHomeGives.l3.ok N p⟩, ⟨N, fun p => f_laws_FnHomeGives.l4.ok N p⟩, ⟨N, fun p => f_laws_FnHomeGives.l5.ok N p⟩, trivial⟩, trivial⟩ rfl rfl E4
theorem S4 : ConS Try.prog 4 C4 := B4.call rfl
/-- What is left: the plain law. -/
def Pure : Prop := ∀ x : Tup [(.sl R0)], WfT [(.sl R0)] x → C4.fn x = some (true : Bool)
end
end Go.Abs
