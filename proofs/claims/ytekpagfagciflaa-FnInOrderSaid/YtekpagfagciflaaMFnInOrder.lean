import Derived.Test.YtekpagfagciflaaProg
import Derived.Test.YtekpagfagciflaaAbtD
import Derived.KernelRfl
namespace Go.Abs
open Go.Proofs
set_option linter.unusedVariables false
set_option maxRecDepth 100000
noncomputable section
abbrev N : Nat := 1152921504606846976
abbrev R0 : RT := .one (.int .u8)
abbrev R1 : RT := .one (.int .i64)
abbrev R2 : RT := .cons (.int .i64) (.cons (.int .i64) (.cons .bool (.one (.nl R1))))
abbrev R3 : RT := .cons (.int .i64) (.cons (.int .i64) (.cons .bool (.cons (.int .i64) (.cons (.int .i64) (.cons (.int .i64) (.cons .bool (.one (.nl R1))))))))
noncomputable def tb : Tb := [(0, ⟨false, [], [], 0, 0⟩),
  (3, ⟨false, [(.int .i64)], [], 0, 8⟩),
  (4, ⟨false, [.bool], [], 0, 1⟩),
  (5, ⟨false, [(.int .u8)], [], 0, 1⟩),
  (25, ⟨true, [(.int .i64)], [(0, 3)], 0, 8⟩),
  (26, ⟨false, [], [], 0, 0⟩),
  (31, ⟨false, [(.sl R0)], [], 5, 24⟩),
  (35, ⟨false, [], [], 0, 8⟩),
  (40, ⟨false, [(.nl R1)], [], 3, 24⟩),
  (53, ⟨false, [(.sl R2)], [], 58, 24⟩),
  (55, ⟨true, [(.int .i64), (.sl R2)], [(0, 3), (1, 53)], 0, 32⟩),
  (56, ⟨false, [(.sl R3)], [], 62, 24⟩),
  (58, ⟨true, [(.int .i64), (.int .i64), .bool, (.nl R1)], [(0, 3), (1, 3), (2, 4), (3, 40)], 0, 48⟩),
  (59, ⟨false, [], [], 0, 0⟩),
  (62, ⟨true, [(.int .i64), (.int .i64), .bool, (.int .i64), (.int .i64), (.int .i64), .bool, (.nl R1)], [(0, 3), (1, 3), (2, 4), (3, 3), (4, 58)], 0, 80⟩),
  (93, ⟨false, [], [], 0, 8⟩)]
noncomputable def fsL : List (Nat × Func) := [(37, Try.f37), (38, Try.f38), (85, Try.f85), (70, Try.f70), (68, Try.f68), (58, Try.f58), (75, Try.f75), (84, Try.f84), (83, Try.f83), (88, Try.f88), (89, Try.f89), (87, Try.f87), (81, Try.f81), (69, Try.f69), (77, Try.f77), (86, Try.f86), (76, Try.f76), (42, Try.f42), (39, Try.f39), (74, Try.f74), (71, Try.f71), (57, Try.f57), (79, Try.f79), (73, Try.f73), (72, Try.f72), (40, Try.f40), (17, Try.f17), (41, Try.f41), (10, Try.f10)]
noncomputable def fs : Nat → Option Func := getF fsL
theorem MIX : Try.prog.follows .mixedOrders = true := by kernel_rfl
theorem TY : tyCheck Try.prog tb = true := by kernel_rfl
theorem FSP : FsP Try.prog fsL := ⟨Try.func37, Try.func38, Try.func85, Try.func70, Try.func68, Try.func58, Try.func75, Try.func84, Try.func83, Try.func88, Try.func89, Try.func87, Try.func81, Try.func69, Try.func77, Try.func86, Try.func76, Try.func42, Try.func39, Try.func74, Try.func71, Try.func57, Try.func79, Try.func73, Try.func72, Try.func40, Try.func17, Try.func41, Try.func10, trivial⟩
theorem FSC : (fsL.all fun p => fnChk p.2) = true := by kernel_rfl
theorem FS : FsS Try.prog fs := FsS.of FSP FSC
/-! laws.big: function 37 -/
noncomputable def f_laws_big (x0 : List Int) : Option (Bool) :=
  some (decide ((1048576 : Int) < (x0.length : Int)))
noncomputable def C37 : Con := ⟨[(.B, false, [(.sl R0)])], [(false, [.bool])], [(.sl R0)], [.bool], fun (p : List Int) => f_laws_big p⟩
noncomputable abbrev K37 : Cons := []
noncomputable abbrev L37 : List (Nat × Loops) := []
abbrev Q37 : List (Nat × List (Int × Nat) × Nat) := []
noncomputable abbrev X37 : Nat → Ctx := ctxOf tb K37 L37 Q37
theorem E37 : ∀ x, funRun fs X37 6 37 C37 x = C37.fn x := fun x => by kernel_rfl
theorem B37 : ConB Try.prog 37 C37 := ConB.make FS MIX TY (cons := K37) (L := L37) (ptrs := Q37) trivial trivial trivial rfl rfl E37
theorem S37 : ConS Try.prog 37 C37 := B37.call rfl
/-! laws.at: function 38 -/
noncomputable def f_laws_at (x0 : List Int) (x1 : Int) : Option (Int) :=
  bif (decide (x1 < (x0.length : Int))) then
    bif ((decide ((0 : Int) ≤ x1)) && (decide (x1 < (x0.length : Int)))) then
    some (IntKind.wrap .i64 ((x0.getD x1.toNat 0)))
    else none
  else
    some (Int.tmod (IntKind.wrap .i64 ((IntKind.wrap .i64 (x1 * (7 : Int))) + (x0.length : Int))) (256 : Int))
noncomputable def C38 : Con := ⟨[(.B, false, [(.sl R0)]), (.B, false, [(.int .i64)])], [(false, [(.int .i64)])], [(.sl R0), (.int .i64)], [(.int .i64)], fun (p : List Int × Int) => f_laws_at p.1 p.2⟩
noncomputable abbrev K38 : Cons := []
noncomputable abbrev L38 : List (Nat × Loops) := []
abbrev Q38 : List (Nat × List (Int × Nat) × Nat) := []
noncomputable abbrev X38 : Nat → Ctx := ctxOf tb K38 L38 Q38
theorem E38 : ∀ x, funRun fs X38 6 38 C38 x = C38.fn x := fun x => by kernel_rfl
theorem B38 : ConB Try.prog 38 C38 := ConB.make FS MIX TY (cons := K38) (L := L38) (ptrs := Q38) trivial trivial trivial rfl rfl E38
theorem S38 : ConS Try.prog 38 C38 := B38.call rfl
/-! slices.Clone[[]int,int]: function 85 -/
noncomputable def f_slices_Clone_int_int (_ : Unit) : Option Unit := some ()
noncomputable def C85 : Con := ⟨[(.B, false, [(.nl R1)])], [(false, [(.nl R1)])], [(.nl R1)], [(.nl R1)], fun _ => some ()⟩
noncomputable abbrev X85 : Nat → Ctx := ctxOf tb [] [] []
theorem E85 : bodyRun fs X85 6 85 C85 [] [] [.bor (some 1000) R1 []] [] = some () := by kernel_rfl
theorem Z85 : bodyRun fs X85 6 85 C85 [] [] [.nil (some R1)] [] = some () := by kernel_rfl
theorem B85 : ConB Try.prog 85 C85 := ConB.copyN FS MIX TY (cons := []) (L := []) (ptrs := []) trivial trivial trivial rfl E85 Z85
theorem S85 : ConS Try.prog 85 C85 := B85.call rfl
/-! impl.copyMsg: function 70 -/
noncomputable def f_impl_copyMsg (x0 : Int) (x1 : Int) (x2 : Bool) (x3 : Unit) : Option (Int × Int × Bool × Unit) :=
  (f_slices_Clone_int_int ()).bind fun y1 =>
  some (x0, x1, x2, ())
noncomputable def C70 : Con := ⟨[(.B, true, [(.int .i64), (.int .i64), .bool, (.nl R1)])], [(true, [(.int .i64), (.int .i64), .bool, (.nl R1)])], [(.int .i64), (.int .i64), .bool, (.nl R1)], [(.int .i64), (.int .i64), .bool, (.nl R1)], fun (p : Int × Int × Bool × Unit) => f_impl_copyMsg p.1 p.2.1 p.2.2.1 p.2.2.2⟩
noncomputable abbrev K70 : Cons := [(85, C85)]
noncomputable abbrev L70 : List (Nat × Loops) := []
abbrev Q70 : List (Nat × List (Int × Nat) × Nat) := []
noncomputable abbrev X70 : Nat → Ctx := ctxOf tb K70 L70 Q70
theorem E70 : ∀ x, funRun fs X70 6 70 C70 x = C70.fn x := fun x => by kernel_rfl
theorem B70 : ConB Try.prog 70 C70 := ConB.make FS MIX TY (cons := K70) (L := L70) (ptrs := Q70) ⟨S85, trivial⟩ trivial trivial rfl rfl E70
theorem S70 : ConS Try.prog 70 C70 := B70.call rfl
/-! impl.copySender: function 68 -/
noncomputable def f_impl_copySender.l0 : Nat → (List (Int × Int × Bool × Unit)) → Int → Int → Int → Int → (List (Int × Int × Bool × Unit)) → (List (Int × Int × Bool × Unit)) → Option (Int × Int × (List (Int × Int × Bool × Unit)) × (List (Int × Int × Bool × Unit)))
  | 0, _, _, _, _, _, _, _ => none
  | n + 1, p2, p3, p4, p5, p6, p7, p8 =>
    bif (decide (p4 < p3)) then
      bif ((decide ((0 : Int) ≤ p4)) && (decide (p4 < (p2.length : Int)))) then
      (f_impl_copyMsg ((p2.getD p4.toNat (0, 0, false, ())).1) ((p2.getD p4.toNat (0, 0, false, ())).2.1) ((p2.getD p4.toNat (0, 0, false, ())).2.2.1) ()).bind fun y9 =>
      bif (Nat.blt (p8.length + ([(y9.1, y9.2.1, y9.2.2.1, ())] : List (Int × Int × Bool × Unit)).length) 2932031007402) then
      (some ((p8 ++ ([(y9.1, y9.2.1, y9.2.2.1, ())] : List (Int × Int × Bool × Unit))) : List (Int × Int × Bool × Unit))).bind fun z10 =>
      f_impl_copySender.l0 n p2 p3 (IntKind.wrap .i64 (p4 + (1 : Int))) p5 p6 p7 z10
      else none
      else none
    else
      some (p5, p6, p7, p8)
noncomputable def f_impl_copySender (x0 : Int) (x1 : List (Int × Int × Bool × Unit)) : Option (Int × (List (Int × Int × Bool × Unit))) :=
  (f_impl_copySender.l0 N x1 (x1.length : Int) 0 0 x0 ([] : List (Int × Int × Bool × Unit)) ([] : List (Int × Int × Bool × Unit))).bind fun r11 =>
  some (r11.2.1, r11.2.2.2)
noncomputable def C68 : Con := ⟨[(.B, true, [(.int .i64), (.sl R2)])], [(true, [(.int .i64), (.sl R2)])], [(.int .i64), (.sl R2)], [(.int .i64), (.sl R2)], fun (p : Int × (List (Int × Int × Bool × Unit))) => f_impl_copySender p.1 p.2⟩
noncomputable def f_impl_copySender.l0.c : LoopCon := ⟨1000, 6, [2, 3, 10, 11, 12], ⟨[(2, .ptr 1000 0), (3, .ptr 1001 0), (10, .bor none R2 []), (11, .int .i64 0), (12, .int .i64 0)], [(1000, .box [.int .i64 0, .ref 1002 [] none]), (1001, .box [.int .i64 0, .ref 1003 [] none]), (1002, .row R2 []), (1003, .row R2 [])], 1004⟩, [(.sl R2), (.int .i64), (.int .i64), (.int .i64), (.int .i64), (.sl R2), (.sl R2)], [⟨.exit 0, [2, 3], ⟨[(2, .ptr 1000 0), (3, .ptr 1001 0)], [(1000, .box [.int .i64 0, .ref 1002 [] none]), (1001, .box [.int .i64 0, .ref 1003 [] none]), (1002, .row R2 []), (1003, .row R2 [])], 1004⟩, [(.int .i64), (.int .i64), (.sl R2), (.sl R2)]⟩], fun (p : (List (Int × Int × Bool × Unit)) × Int × Int × Int × Int × (List (Int × Int × Bool × Unit)) × (List (Int × Int × Bool × Unit))) => f_impl_copySender.l0 N p.1 p.2.1 p.2.2.1 p.2.2.2.1 p.2.2.2.2.1 p.2.2.2.2.2.1 p.2.2.2.2.2.2⟩
noncomputable abbrev K68 : Cons := [(70, C70)]
noncomputable abbrev L68 : List (Nat × Loops) := [(68, [(3, f_impl_copySender.l0.c)])]
abbrev Q68 : List (Nat × List (Int × Nat) × Nat) := []
noncomputable abbrev X68 : Nat → Ctx := ctxOf tb K68 L68 Q68
theorem f_impl_copySender.l0.ok : ∀ n p, (fun (p : (List (Int × Int × Bool × Unit)) × Int × Int × Int × Int × (List (Int × Int × Bool × Unit)) × (List (Int × Int × Bool × Unit))) => f_impl_copySender.l0 n p.1 p.2.1 p.2.2.1 p.2.2.2.1 p.2.2.2.2.1 p.2.2.2.2.2.1 p.2.2.2.2.2.2) p = iterD (roundOf fs X68 6 68 3 false f_impl_copySender.l0.c) n p :=
  iter_of (l := fun n => fun (p : (List (Int × Int × Bool × Unit)) × Int × Int × Int × Int × (List (Int × Int × Bool × Unit)) × (List (Int × Int × Bool × Unit))) => f_impl_copySender.l0 n p.1 p.2.1 p.2.2.1 p.2.2.2.1 p.2.2.2.2.1 p.2.2.2.2.2.1 p.2.2.2.2.2.2) (fun _ => rfl) (fun n p => by kernel_rfl)
theorem E68 : ∀ x, funRun fs X68 6 68 C68 x = C68.fn x := fun x => by kernel_rfl
theorem B68 : ConB Try.prog 68 C68 := ConB.make FS MIX TY (cons := K68) (L := L68) (ptrs := Q68) ⟨S70, trivial⟩ trivial ⟨⟨⟨N, fun p => f_impl_copySender.l0.ok N p⟩, trivial⟩, trivial⟩ rfl rfl E68
theorem S68 : ConS Try.prog 68 C68 := B68.call rfl
/-! impl.from: function 58 -/
noncomputable def f_impl_from (x0 : Int) (x1 : Int) (x2 : Int) : Option (Bool) :=
  bif (decide (x1 ≤ x0)) then
    some (decide (x0 ≤ x2))
  else
    some false
noncomputable def C58 : Con := ⟨[(.B, false, [(.int .i64)]), (.B, false, [(.int .i64)]), (.B, false, [(.int .i64)])], [(false, [.bool])], [(.int .i64), (.int .i64), (.int .i64)], [.bool], fun (p : Int × Int × Int) => f_impl_from p.1 p.2.1 p.2.2⟩
noncomputable abbrev K58 : Cons := []
noncomputable abbrev L58 : List (Nat × Loops) := []
abbrev Q58 : List (Nat × List (Int × Nat) × Nat) := []
noncomputable abbrev X58 : Nat → Ctx := ctxOf tb K58 L58 Q58
theorem E58 : ∀ x, funRun fs X58 6 58 C58 x = C58.fn x := fun x => by kernel_rfl
theorem B58 : ConB Try.prog 58 C58 := ConB.make FS MIX TY (cons := K58) (L := L58) (ptrs := Q58) trivial trivial trivial rfl rfl E58
theorem S58 : ConS Try.prog 58 C58 := B58.call rfl
/-! impl.isSeq: function 75 -/
noncomputable def f_impl_isSeq (x0 : Int) : Option (Bool) :=
  (f_impl_from x0 0 100000).bind fun y12 =>
  some y12
noncomputable def C75 : Con := ⟨[(.B, false, [(.int .i64)])], [(false, [.bool])], [(.int .i64)], [.bool], fun (p : Int) => f_impl_isSeq p⟩
noncomputable abbrev K75 : Cons := [(58, C58)]
noncomputable abbrev L75 : List (Nat × Loops) := []
abbrev Q75 : List (Nat × List (Int × Nat) × Nat) := []
noncomputable abbrev X75 : Nat → Ctx := ctxOf tb K75 L75 Q75
theorem E75 : ∀ x, funRun fs X75 6 75 C75 x = C75.fn x := fun x => by kernel_rfl
theorem B75 : ConB Try.prog 75 C75 := ConB.make FS MIX TY (cons := K75) (L := L75) (ptrs := Q75) ⟨S58, trivial⟩ trivial trivial rfl rfl E75
theorem S75 : ConS Try.prog 75 C75 := B75.call rfl
/-! impl.isPage: function 84 -/
noncomputable def f_impl_isPage (x0 : Int) : Option (Bool) :=
  (f_impl_from x0 0 5).bind fun y13 =>
  some y13
noncomputable def C84 : Con := ⟨[(.B, false, [(.int .i64)])], [(false, [.bool])], [(.int .i64)], [.bool], fun (p : Int) => f_impl_isPage p⟩
noncomputable abbrev K84 : Cons := [(58, C58)]
noncomputable abbrev L84 : List (Nat × Loops) := []
abbrev Q84 : List (Nat × List (Int × Nat) × Nat) := []
noncomputable abbrev X84 : Nat → Ctx := ctxOf tb K84 L84 Q84
theorem E84 : ∀ x, funRun fs X84 6 84 C84 x = C84.fn x := fun x => by kernel_rfl
theorem B84 : ConB Try.prog 84 C84 := ConB.make FS MIX TY (cons := K84) (L := L84) (ptrs := Q84) ⟨S58, trivial⟩ trivial trivial rfl rfl E84
theorem S84 : ConS Try.prog 84 C84 := B84.call rfl
/-! impl.isWord: function 83 -/
noncomputable def f_impl_isWord (x0 : Int) : Option (Bool) :=
  (f_impl_from x0 0 65535).bind fun y14 =>
  some y14
noncomputable def C83 : Con := ⟨[(.B, false, [(.int .i64)])], [(false, [.bool])], [(.int .i64)], [.bool], fun (p : Int) => f_impl_isWord p⟩
noncomputable abbrev K83 : Cons := [(58, C58)]
noncomputable abbrev L83 : List (Nat × Loops) := []
abbrev Q83 : List (Nat × List (Int × Nat) × Nat) := []
noncomputable abbrev X83 : Nat → Ctx := ctxOf tb K83 L83 Q83
theorem E83 : ∀ x, funRun fs X83 6 83 C83 x = C83.fn x := fun x => by kernel_rfl
theorem B83 : ConB Try.prog 83 C83 := ConB.make FS MIX TY (cons := K83) (L := L83) (ptrs := Q83) ⟨S58, trivial⟩ trivial trivial rfl rfl E83
theorem S83 : ConS Try.prog 83 C83 := B83.call rfl
/-! impl.wordsOk$1: function 88 -/
noncomputable def f_impl_wordsOk_1 (x0 : Int) : Option (Bool) :=
  (f_impl_isWord x0).bind fun y15 =>
  some (!y15)
noncomputable def C88 : Con := ⟨[(.B, false, [(.int .i64)])], [(false, [.bool])], [(.int .i64)], [.bool], fun (p : Int) => f_impl_wordsOk_1 p⟩
noncomputable abbrev K88 : Cons := [(83, C83)]
noncomputable abbrev L88 : List (Nat × Loops) := []
abbrev Q88 : List (Nat × List (Int × Nat) × Nat) := []
noncomputable abbrev X88 : Nat → Ctx := ctxOf tb K88 L88 Q88
theorem E88 : ∀ x, funRun fs X88 6 88 C88 x = C88.fn x := fun x => by kernel_rfl
theorem B88 : ConB Try.prog 88 C88 := ConB.make FS MIX TY (cons := K88) (L := L88) (ptrs := Q88) ⟨S83, trivial⟩ trivial trivial rfl rfl E88
theorem S88 : ConS Try.prog 88 C88 := B88.call rfl
/-! impl.wordsOk: function 81 -/
noncomputable def f_impl_wordsOk.l0 : Nat → Int → Int → Int → Option (Int)
  | 0, _, _, _ => none
  | n + 1, p16, p17, p18 =>
    bif (decide (p18 < p17)) then none else
    some p16
noncomputable def f_impl_wordsOk (x0 : Unit) (x1 : Int) : Option (Bool) :=
  bif (decide ((0 : Int) = x1)) then
    (f_impl_wordsOk.l0 N 0 0 0).bind fun r19 =>
    some true
  else
    some false
noncomputable def C81 : Con := ⟨[(.B, false, [(.nl R1)]), (.B, false, [(.int .i64)])], [(false, [.bool])], [(.nl R1), (.int .i64)], [.bool], fun (p : Unit × Int) => f_impl_wordsOk p.1 p.2⟩
noncomputable def f_impl_wordsOk.l0.c : LoopCon := ⟨1274, 4, [0, 1, 4, 7, 8], ⟨[(0, .emp), (1, .func 88 []), (4, .int .i64 0), (7, .int .i64 0), (8, .int .i64 0)], [], 1274⟩, [(.int .i64), (.int .i64), (.int .i64)], [⟨.exit 0, [4], ⟨[(4, .int .i64 0)], [], 1274⟩, [(.int .i64)]⟩], fun (p : Int × Int × Int) => f_impl_wordsOk.l0 N p.1 p.2.1 p.2.2⟩
noncomputable abbrev K81 : Cons := []
noncomputable abbrev L81 : List (Nat × Loops) := [(89, [(2, f_impl_wordsOk.l0.c)])]
abbrev Q81 : List (Nat × List (Int × Nat) × Nat) := []
noncomputable abbrev X81 : Nat → Ctx := ctxOf tb K81 L81 Q81
theorem f_impl_wordsOk.l0.ok : ∀ n p, (fun (p : Int × Int × Int) => f_impl_wordsOk.l0 n p.1 p.2.1 p.2.2) p = iterD (roundOf fs X81 4 89 2 true f_impl_wordsOk.l0.c) n p :=
  iter_of (l := fun n => fun (p : Int × Int × Int) => f_impl_wordsOk.l0 n p.1 p.2.1 p.2.2) (fun _ => rfl) (fun n p => by kernel_rfl)
theorem E81 : ∀ x, funRun fs X81 6 81 C81 x = C81.fn x := fun x => by kernel_rfl
theorem B81 : ConB Try.prog 81 C81 := ConB.make FS MIX TY (cons := K81) (L := L81) (ptrs := Q81) trivial trivial ⟨⟨⟨N, fun p => f_impl_wordsOk.l0.ok N p⟩, trivial⟩, trivial⟩ rfl rfl E81
theorem S81 : ConS Try.prog 81 C81 := B81.call rfl
/-! impl.MsgOk: function 69 -/
noncomputable def f_impl_MsgOk (x0 : Int) (x1 : Int) (x2 : Bool) (x3 : Unit) : Option (Bool) :=
  (f_impl_from x0 1 7).bind fun y20 =>
  bif (!y20) then
    some false
  else
    (f_impl_isPage x1).bind fun y21 =>
    bif (!y21) then
      some false
    else
      bif x2 then
        bif (!(decide (x0 = (3 : Int)))) then
          bif (!(decide (x0 = (6 : Int)))) then
            some false
          else
            bif (decide (x0 = (3 : Int))) then
              (f_impl_wordsOk () 4).bind fun y22 =>
              some y22
            else
              bif (decide (x0 = (7 : Int))) then
                (f_impl_wordsOk () 4).bind fun y23 =>
                some y23
              else
                some true
        else
          bif (decide (x0 = (3 : Int))) then
            (f_impl_wordsOk () 4).bind fun y24 =>
            some y24
          else
            bif (decide (x0 = (7 : Int))) then
              (f_impl_wordsOk () 4).bind fun y25 =>
              some y25
            else
              some true
      else
        bif (decide (x0 = (3 : Int))) then
          (f_impl_wordsOk () 4).bind fun y26 =>
          some y26
        else
          bif (decide (x0 = (7 : Int))) then
            (f_impl_wordsOk () 4).bind fun y27 =>
            some y27
          else
            some true
noncomputable def C69 : Con := ⟨[(.B, true, [(.int .i64), (.int .i64), .bool, (.nl R1)])], [(false, [.bool])], [(.int .i64), (.int .i64), .bool, (.nl R1)], [.bool], fun (p : Int × Int × Bool × Unit) => f_impl_MsgOk p.1 p.2.1 p.2.2.1 p.2.2.2⟩
noncomputable abbrev K69 : Cons := [(58, C58), (81, C81), (84, C84)]
noncomputable abbrev L69 : List (Nat × Loops) := []
abbrev Q69 : List (Nat × List (Int × Nat) × Nat) := []
noncomputable abbrev X69 : Nat → Ctx := ctxOf tb K69 L69 Q69
theorem E69 : ∀ x, funRun fs X69 6 69 C69 x = C69.fn x := fun x => by kernel_rfl
theorem B69 : ConB Try.prog 69 C69 := ConB.make FS MIX TY (cons := K69) (L := L69) (ptrs := Q69) ⟨S58, S81, S84, trivial⟩ trivial trivial rfl rfl E69
theorem S69 : ConS Try.prog 69 C69 := B69.call rfl
/-! impl.SenderOk$1: function 77 -/
noncomputable def f_impl_SenderOk_1 (x0 : Int) (x1 : Int) (x2 : Bool) (x3 : Unit) : Option (Bool) :=
  (f_impl_MsgOk x0 x1 x2 ()).bind fun y28 =>
  some (!y28)
noncomputable def C77 : Con := ⟨[(.B, true, [(.int .i64), (.int .i64), .bool, (.nl R1)])], [(false, [.bool])], [(.int .i64), (.int .i64), .bool, (.nl R1)], [.bool], fun (p : Int × Int × Bool × Unit) => f_impl_SenderOk_1 p.1 p.2.1 p.2.2.1 p.2.2.2⟩
noncomputable abbrev K77 : Cons := [(69, C69)]
noncomputable abbrev L77 : List (Nat × Loops) := []
abbrev Q77 : List (Nat × List (Int × Nat) × Nat) := []
noncomputable abbrev X77 : Nat → Ctx := ctxOf tb K77 L77 Q77
theorem E77 : ∀ x, funRun fs X77 6 77 C77 x = C77.fn x := fun x => by kernel_rfl
theorem B77 : ConB Try.prog 77 C77 := ConB.make FS MIX TY (cons := K77) (L := L77) (ptrs := Q77) ⟨S69, trivial⟩ trivial trivial rfl rfl E77
theorem S77 : ConS Try.prog 77 C77 := B77.call rfl
/-! impl.SenderOk: function 42 -/
noncomputable def f_impl_SenderOk.l0 : Nat → (List (Int × Int × Bool × Unit)) → Int → Int → Int → Int → (List (Int × Int × Bool × Unit)) → Option ((Int × Int × (List (Int × Int × Bool × Unit))) ⊕ (Int × Int × (List (Int × Int × Bool × Unit))))
  | 0, _, _, _, _, _, _ => none
  | n + 1, p30, p31, p32, p33, p34, p35 =>
    bif (decide (p33 < p32)) then
      bif ((decide ((0 : Int) ≤ p33)) && (decide (p33 < (p30.length : Int)))) then
      (f_impl_SenderOk_1 ((p30.getD p33.toNat (0, 0, false, ())).1) ((p30.getD p33.toNat (0, 0, false, ())).2.1) ((p30.getD p33.toNat (0, 0, false, ())).2.2.1) ()).bind fun y36 =>
      bif y36 then
        some (.inl (p33, p34, p35))
      else
        f_impl_SenderOk.l0 n p30 p31 p32 (IntKind.wrap .i64 (p33 + (1 : Int))) p34 p35
      else none
    else
      some (.inr (p31, p34, p35))
noncomputable def f_impl_SenderOk (x0 : Int) (x1 : List (Int × Int × Bool × Unit)) : Option (Bool) :=
  (f_impl_isSeq x0).bind fun y29 =>
  bif y29 then
    bif (decide ((x1.length : Int) ≤ (30 : Int))) then
      bif (decide ((IntKind.wrap .i64 (x0 + (x1.length : Int))) ≤ (100000 : Int))) then
        (f_impl_SenderOk.l0 N x1 0 (x1.length : Int) 0 x0 x1).bind fun r37 =>
        cs r37 (fun a38 =>
          some (!(decide ((0 : Int) ≤ a38.1)))) (fun b39 =>
          some true)
      else
        some false
    else
      some false
  else
    some false
noncomputable def C42 : Con := ⟨[(.B, true, [(.int .i64), (.sl R2)])], [(false, [.bool])], [(.int .i64), (.sl R2)], [.bool], fun (p : Int × (List (Int × Int × Bool × Unit))) => f_impl_SenderOk p.1 p.2⟩
noncomputable def f_impl_SenderOk.l0.c : LoopCon := ⟨1530, 4, [0, 1, 4, 7, 8], ⟨[(0, .bor none R2 []), (1, .func 77 []), (4, .int .i64 0), (7, .int .i64 0), (8, .int .i64 0)], [(1002, .box [.int .i64 0, .bor (some 1) R2 []])], 1530⟩, [(.sl R2), (.int .i64), (.int .i64), (.int .i64), (.int .i64), (.sl R2)], [⟨.ret, [4], ⟨[(4, .int .i64 0)], [(1002, .box [.int .i64 0, .bor (some 1) R2 []])], 1530⟩, [(.int .i64), (.int .i64), (.sl R2)]⟩, ⟨.exit 0, [4], ⟨[(4, .int .i64 0)], [(1002, .box [.int .i64 0, .bor (some 1) R2 []])], 1530⟩, [(.int .i64), (.int .i64), (.sl R2)]⟩], fun (p : (List (Int × Int × Bool × Unit)) × Int × Int × Int × Int × (List (Int × Int × Bool × Unit))) => f_impl_SenderOk.l0 N p.1 p.2.1 p.2.2.1 p.2.2.2.1 p.2.2.2.2.1 p.2.2.2.2.2⟩
noncomputable abbrev K42 : Cons := [(75, C75), (77, C77)]
noncomputable abbrev L42 : List (Nat × Loops) := [(86, [(2, f_impl_SenderOk.l0.c)])]
abbrev Q42 : List (Nat × List (Int × Nat) × Nat) := []
noncomputable abbrev X42 : Nat → Ctx := ctxOf tb K42 L42 Q42
theorem f_impl_SenderOk.l0.ok : ∀ n p, (fun (p : (List (Int × Int × Bool × Unit)) × Int × Int × Int × Int × (List (Int × Int × Bool × Unit))) => f_impl_SenderOk.l0 n p.1 p.2.1 p.2.2.1 p.2.2.2.1 p.2.2.2.2.1 p.2.2.2.2.2) p = iterD (roundOf fs X42 4 86 2 true f_impl_SenderOk.l0.c) n p :=
  iter_of (l := fun n => fun (p : (List (Int × Int × Bool × Unit)) × Int × Int × Int × Int × (List (Int × Int × Bool × Unit))) => f_impl_SenderOk.l0 n p.1 p.2.1 p.2.2.1 p.2.2.2.1 p.2.2.2.2.1 p.2.2.2.2.2) (fun _ => rfl) (fun n p => by kernel_rfl)
theorem E42 : ∀ x, funRun fs X42 6 42 C42 x = C42.fn x := fun x => by kernel_rfl
theorem B42 : ConB Try.prog 42 C42 := ConB.make FS MIX TY (cons := K42) (L := L42) (ptrs := Q42) ⟨S75, S77, trivial⟩ trivial ⟨⟨⟨N, fun p => f_impl_SenderOk.l0.ok N p⟩, trivial⟩, trivial⟩ rfl rfl E42
theorem S42 : ConS Try.prog 42 C42 := B42.call rfl
/-! impl.Queue: function 39 -/
noncomputable def f_impl_Queue (x0 : Int) (x1 : List (Int × Int × Bool × Unit)) (x2 : Int) (x3 : Int) (x4 : Bool) (x5 : Unit) : Option (Int × (List (Int × Int × Bool × Unit)) × Bool) :=
  (f_impl_copySender x0 x1).bind fun y40 =>
  (f_impl_SenderOk y40.1 y40.2).bind fun y41 =>
  bif (!y41) then
    some (y40.1, y40.2, false)
  else
    (f_impl_MsgOk x2 x3 x4 ()).bind fun y42 =>
    bif (!y42) then
      some (y40.1, y40.2, false)
    else
      bif (decide ((y40.2.length : Int) = (30 : Int))) then
        some (y40.1, y40.2, false)
      else
        bif (decide ((IntKind.wrap .i64 (y40.1 + (y40.2.length : Int))) = (100000 : Int))) then
          some (y40.1, y40.2, false)
        else
          (f_impl_copyMsg x2 x3 x4 ()).bind fun y43 =>
          bif (Nat.blt (y40.2.length + ([(y43.1, y43.2.1, y43.2.2.1, ())] : List (Int × Int × Bool × Unit)).length) 2932031007402) then
          (some ((y40.2 ++ ([(y43.1, y43.2.1, y43.2.2.1, ())] : List (Int × Int × Bool × Unit))) : List (Int × Int × Bool × Unit))).bind fun z44 =>
          some (y40.1, z44, true)
          else none
noncomputable def C39 : Con := ⟨[(.B, true, [(.int .i64), (.sl R2)]), (.B, true, [(.int .i64), (.int .i64), .bool, (.nl R1)])], [(true, [(.int .i64), (.sl R2)]), (false, [.bool])], [(.int .i64), (.sl R2), (.int .i64), (.int .i64), .bool, (.nl R1)], [(.int .i64), (.sl R2), .bool], fun (p : Int × (List (Int × Int × Bool × Unit)) × Int × Int × Bool × Unit) => f_impl_Queue p.1 p.2.1 p.2.2.1 p.2.2.2.1 p.2.2.2.2.1 p.2.2.2.2.2⟩
noncomputable abbrev K39 : Cons := [(42, C42), (68, C68), (69, C69), (70, C70)]
noncomputable abbrev L39 : List (Nat × Loops) := []
abbrev Q39 : List (Nat × List (Int × Nat) × Nat) := []
noncomputable abbrev X39 : Nat → Ctx := ctxOf tb K39 L39 Q39
theorem E39 : ∀ x, funRun fs X39 6 39 C39 x = C39.fn x := fun x => by kernel_rfl
theorem B39 : ConB Try.prog 39 C39 := ConB.make FS MIX TY (cons := K39) (L := L39) (ptrs := Q39) ⟨S42, S68, S69, S70, trivial⟩ trivial trivial rfl rfl E39
theorem S39 : ConS Try.prog 39 C39 := B39.call rfl
/-! spec.l1Msg: function 74 -/
noncomputable def f_spec_l1Msg (x0 : Int) (x1 : Int) (x2 : Bool) (x3 : Unit) : Option (Int × Int × Bool × Unit) :=
  some (x0, x1, x2, ())
noncomputable def C74 : Con := ⟨[(.B, true, [(.int .i64), (.int .i64), .bool, (.nl R1)])], [(true, [(.int .i64), (.int .i64), .bool, (.nl R1)])], [(.int .i64), (.int .i64), .bool, (.nl R1)], [(.int .i64), (.int .i64), .bool, (.nl R1)], fun (p : Int × Int × Bool × Unit) => f_spec_l1Msg p.1 p.2.1 p.2.2.1 p.2.2.2⟩
noncomputable abbrev K74 : Cons := []
noncomputable abbrev L74 : List (Nat × Loops) := []
abbrev Q74 : List (Nat × List (Int × Nat) × Nat) := []
noncomputable abbrev X74 : Nat → Ctx := ctxOf tb K74 L74 Q74
theorem E74 : ∀ x, funRun fs X74 6 74 C74 x = C74.fn x := fun x => by kernel_rfl
theorem B74 : ConB Try.prog 74 C74 := ConB.make FS MIX TY (cons := K74) (L := L74) (ptrs := Q74) trivial trivial trivial rfl rfl E74
theorem S74 : ConS Try.prog 74 C74 := B74.call rfl
/-! spec.l2Sender: function 71 -/
noncomputable def f_spec_l2Sender.l0 : Nat → Int → Int → (List (Int × Int × Bool × Unit)) → Int → Int → (List (Int × Int × Bool × Unit)) → (List (Int × Int × Bool × Unit)) → Option (Int × Int × (List (Int × Int × Bool × Unit)) × (List (Int × Int × Bool × Unit)))
  | 0, _, _, _, _, _, _, _ => none
  | n + 1, p45, p46, p47, p48, p49, p50, p51 =>
    bif (decide (p45 < (p47.length : Int))) then
      bif ((decide ((0 : Int) ≤ p45)) && (decide (p45 < (p47.length : Int)))) then
      (f_spec_l1Msg ((p47.getD p45.toNat (0, 0, false, ())).1) ((p47.getD p45.toNat (0, 0, false, ())).2.1) ((p47.getD p45.toNat (0, 0, false, ())).2.2.1) ()).bind fun y52 =>
      bif (Nat.blt (p51.length + ([(y52.1, y52.2.1, y52.2.2.1, ())] : List (Int × Int × Bool × Unit)).length) 2932031007402) then
      (some ((p51 ++ ([(y52.1, y52.2.1, y52.2.2.1, ())] : List (Int × Int × Bool × Unit))) : List (Int × Int × Bool × Unit))).bind fun z53 =>
      f_spec_l2Sender.l0 n (IntKind.wrap .i64 (p45 + (1 : Int))) p46 p47 p48 p49 p50 z53
      else none
      else none
    else
      some (p48, p49, p50, p51)
noncomputable def f_spec_l2Sender (x0 : Int) (x1 : List (Int × Int × Bool × Unit)) : Option (Int × (List (Int × Int × Bool × Unit))) :=
  (f_spec_l2Sender.l0 N 0 x0 x1 0 x0 ([] : List (Int × Int × Bool × Unit)) ([] : List (Int × Int × Bool × Unit))).bind fun r54 =>
  some (r54.2.1, r54.2.2.2)
noncomputable def C71 : Con := ⟨[(.B, true, [(.int .i64), (.sl R2)])], [(true, [(.int .i64), (.sl R2)])], [(.int .i64), (.sl R2)], [(.int .i64), (.sl R2)], fun (p : Int × (List (Int × Int × Bool × Unit))) => f_spec_l2Sender p.1 p.2⟩
noncomputable def f_spec_l2Sender.l0.c : LoopCon := ⟨1000, 6, [1, 2, 3, 4], ⟨[(1, .ptr 1000 0), (2, .ptr 1001 0), (3, .ptr 1002 0), (4, .int .i64 0)], [(1000, .box [.int .i64 0, .bor none R2 []]), (1001, .box [.int .i64 0, .ref 1003 [] none]), (1002, .box [.int .i64 0, .ref 1004 [] none]), (1003, .row R2 []), (1004, .row R2 [])], 1005⟩, [(.int .i64), (.int .i64), (.sl R2), (.int .i64), (.int .i64), (.sl R2), (.sl R2)], [⟨.exit 0, [2, 3], ⟨[(2, .ptr 1000 0), (3, .ptr 1001 0)], [(1000, .box [.int .i64 0, .ref 1002 [] none]), (1001, .box [.int .i64 0, .ref 1003 [] none]), (1002, .row R2 []), (1003, .row R2 [])], 1004⟩, [(.int .i64), (.int .i64), (.sl R2), (.sl R2)]⟩], fun (p : Int × Int × (List (Int × Int × Bool × Unit)) × Int × Int × (List (Int × Int × Bool × Unit)) × (List (Int × Int × Bool × Unit))) => f_spec_l2Sender.l0 N p.1 p.2.1 p.2.2.1 p.2.2.2.1 p.2.2.2.2.1 p.2.2.2.2.2.1 p.2.2.2.2.2.2⟩
noncomputable abbrev K71 : Cons := [(74, C74)]
noncomputable abbrev L71 : List (Nat × Loops) := [(71, [(3, f_spec_l2Sender.l0.c)])]
abbrev Q71 : List (Nat × List (Int × Nat) × Nat) := []
noncomputable abbrev X71 : Nat → Ctx := ctxOf tb K71 L71 Q71
theorem f_spec_l2Sender.l0.ok : ∀ n p, (fun (p : Int × Int × (List (Int × Int × Bool × Unit)) × Int × Int × (List (Int × Int × Bool × Unit)) × (List (Int × Int × Bool × Unit))) => f_spec_l2Sender.l0 n p.1 p.2.1 p.2.2.1 p.2.2.2.1 p.2.2.2.2.1 p.2.2.2.2.2.1 p.2.2.2.2.2.2) p = iterD (roundOf fs X71 6 71 3 false f_spec_l2Sender.l0.c) n p :=
  iter_of (l := fun n => fun (p : Int × Int × (List (Int × Int × Bool × Unit)) × Int × Int × (List (Int × Int × Bool × Unit)) × (List (Int × Int × Bool × Unit))) => f_spec_l2Sender.l0 n p.1 p.2.1 p.2.2.1 p.2.2.2.1 p.2.2.2.2.1 p.2.2.2.2.2.1 p.2.2.2.2.2.2) (fun _ => rfl) (fun n p => by kernel_rfl)
theorem E71 : ∀ x, funRun fs X71 6 71 C71 x = C71.fn x := fun x => by kernel_rfl
theorem B71 : ConB Try.prog 71 C71 := ConB.make FS MIX TY (cons := K71) (L := L71) (ptrs := Q71) ⟨S74, trivial⟩ trivial ⟨⟨⟨N, fun p => f_spec_l2Sender.l0.ok N p⟩, trivial⟩, trivial⟩ rfl rfl E71
theorem S71 : ConS Try.prog 71 C71 := B71.call rfl
/-! spec.l1In: function 57 -/
noncomputable def f_spec_l1In (x0 : Int) (x1 : Int) (x2 : Int) : Option (Bool) :=
  bif (decide (x1 ≤ x0)) then
    some (decide (x0 ≤ x2))
  else
    some false
noncomputable def C57 : Con := ⟨[(.B, false, [(.int .i64)]), (.B, false, [(.int .i64)]), (.B, false, [(.int .i64)])], [(false, [.bool])], [(.int .i64), (.int .i64), (.int .i64)], [.bool], fun (p : Int × Int × Int) => f_spec_l1In p.1 p.2.1 p.2.2⟩
noncomputable abbrev K57 : Cons := []
noncomputable abbrev L57 : List (Nat × Loops) := []
abbrev Q57 : List (Nat × List (Int × Nat) × Nat) := []
noncomputable abbrev X57 : Nat → Ctx := ctxOf tb K57 L57 Q57
theorem E57 : ∀ x, funRun fs X57 6 57 C57 x = C57.fn x := fun x => by kernel_rfl
theorem B57 : ConB Try.prog 57 C57 := ConB.make FS MIX TY (cons := K57) (L := L57) (ptrs := Q57) trivial trivial trivial rfl rfl E57
theorem S57 : ConS Try.prog 57 C57 := B57.call rfl
/-! spec.l1Words: function 79 -/
noncomputable def f_spec_l1Words.l0 : Nat → Int → Bool → Int → Option (Int × Bool)
  | 0, _, _, _ => none
  | n + 1, p55, p56, p57 =>
    bif (decide (p57 < (0 : Int))) then none else
    some (p55, p56)
noncomputable def f_spec_l1Words (x0 : Unit) (x1 : Int) : Option (Bool) :=
  (f_spec_l1Words.l0 N x1 false 0).bind fun r58 =>
  some (decide ((0 : Int) = r58.1))
noncomputable def C79 : Con := ⟨[(.B, false, [(.nl R1)]), (.B, false, [(.int .i64)])], [(false, [.bool])], [(.nl R1), (.int .i64)], [.bool], fun (p : Unit × Int) => f_spec_l1Words p.1 p.2⟩
noncomputable def f_spec_l1Words.l0.c : LoopCon := ⟨1000, 6, [0, 1, 4, 5], ⟨[(0, .emp), (1, .int .i64 0), (4, .bool false), (5, .int .i64 0)], [], 1000⟩, [(.int .i64), .bool, (.int .i64)], [⟨.exit 0, [0, 1, 4], ⟨[(0, .emp), (1, .int .i64 0), (4, .bool false)], [], 1000⟩, [(.int .i64), .bool]⟩], fun (p : Int × Bool × Int) => f_spec_l1Words.l0 N p.1 p.2.1 p.2.2⟩
noncomputable abbrev K79 : Cons := []
noncomputable abbrev L79 : List (Nat × Loops) := [(79, [(2, f_spec_l1Words.l0.c)])]
abbrev Q79 : List (Nat × List (Int × Nat) × Nat) := []
noncomputable abbrev X79 : Nat → Ctx := ctxOf tb K79 L79 Q79
theorem f_spec_l1Words.l0.ok : ∀ n p, (fun (p : Int × Bool × Int) => f_spec_l1Words.l0 n p.1 p.2.1 p.2.2) p = iterD (roundOf fs X79 6 79 2 false f_spec_l1Words.l0.c) n p :=
  iter_of (l := fun n => fun (p : Int × Bool × Int) => f_spec_l1Words.l0 n p.1 p.2.1 p.2.2) (fun _ => rfl) (fun n p => by kernel_rfl)
theorem E79 : ∀ x, funRun fs X79 6 79 C79 x = C79.fn x := fun x => by kernel_rfl
theorem B79 : ConB Try.prog 79 C79 := ConB.make FS MIX TY (cons := K79) (L := L79) (ptrs := Q79) trivial trivial ⟨⟨⟨N, fun p => f_spec_l1Words.l0.ok N p⟩, trivial⟩, trivial⟩ rfl rfl E79
theorem S79 : ConS Try.prog 79 C79 := B79.call rfl
/-! spec.MsgOk: function 73 -/
noncomputable def f_spec_MsgOk (x0 : Int) (x1 : Int) (x2 : Bool) (x3 : Unit) : Option (Bool) :=
  bif (decide (x0 = (3 : Int))) then
    bif (decide (x0 = (3 : Int))) then
      (f_spec_l1In x0 1 7).bind fun y59 =>
      bif y59 then
        (f_spec_l1In x1 0 5).bind fun y60 =>
        bif y60 then
          (f_spec_l1Words () 4).bind fun y61 =>
          some y61
        else
          some false
      else
        some false
    else
      (f_spec_l1In x0 1 7).bind fun y62 =>
      bif y62 then
        (f_spec_l1In x1 0 5).bind fun y63 =>
        bif y63 then
          bif (decide (x0 = (6 : Int))) then
            (f_spec_l1Words () 4).bind fun y64 =>
            some y64
          else
            bif (!x2) then
              (f_spec_l1Words () 4).bind fun y65 =>
              some y65
            else
              some false
        else
          some false
      else
        some false
  else
    bif (decide (x0 = (7 : Int))) then
      bif (decide (x0 = (3 : Int))) then
        (f_spec_l1In x0 1 7).bind fun y66 =>
        bif y66 then
          (f_spec_l1In x1 0 5).bind fun y67 =>
          bif y67 then
            (f_spec_l1Words () 4).bind fun y68 =>
            some y68
          else
            some false
        else
          some false
      else
        (f_spec_l1In x0 1 7).bind fun y69 =>
        bif y69 then
          (f_spec_l1In x1 0 5).bind fun y70 =>
          bif y70 then
            bif (decide (x0 = (6 : Int))) then
              (f_spec_l1Words () 4).bind fun y71 =>
              some y71
            else
              bif (!x2) then
                (f_spec_l1Words () 4).bind fun y72 =>
                some y72
              else
                some false
          else
            some false
        else
          some false
    else
      bif (decide (x0 = (3 : Int))) then
        (f_spec_l1In x0 1 7).bind fun y73 =>
        bif y73 then
          (f_spec_l1In x1 0 5).bind fun y74 =>
          bif y74 then
            (f_spec_l1Words () 0).bind fun y75 =>
            some y75
          else
            some false
        else
          some false
      else
        (f_spec_l1In x0 1 7).bind fun y76 =>
        bif y76 then
          (f_spec_l1In x1 0 5).bind fun y77 =>
          bif y77 then
            bif (decide (x0 = (6 : Int))) then
              (f_spec_l1Words () 0).bind fun y78 =>
              some y78
            else
              bif (!x2) then
                (f_spec_l1Words () 0).bind fun y79 =>
                some y79
              else
                some false
          else
            some false
        else
          some false
noncomputable def C73 : Con := ⟨[(.B, true, [(.int .i64), (.int .i64), .bool, (.nl R1)])], [(false, [.bool])], [(.int .i64), (.int .i64), .bool, (.nl R1)], [.bool], fun (p : Int × Int × Bool × Unit) => f_spec_MsgOk p.1 p.2.1 p.2.2.1 p.2.2.2⟩
noncomputable abbrev K73 : Cons := [(57, C57), (79, C79)]
noncomputable abbrev L73 : List (Nat × Loops) := []
abbrev Q73 : List (Nat × List (Int × Nat) × Nat) := []
noncomputable abbrev X73 : Nat → Ctx := ctxOf tb K73 L73 Q73
theorem E73 : ∀ x, funRun fs X73 6 73 C73 x = C73.fn x := fun x => by kernel_rfl
theorem B73 : ConB Try.prog 73 C73 := ConB.make FS MIX TY (cons := K73) (L := L73) (ptrs := Q73) ⟨S57, S79, trivial⟩ trivial trivial rfl rfl E73
theorem S73 : ConS Try.prog 73 C73 := B73.call rfl
/-! spec.SenderOk: function 72 -/
noncomputable def f_spec_SenderOk.l0 : Nat → Bool → Int → Int → (List (Int × Int × Bool × Unit)) → Option ((Bool) ⊕ (Bool × Int × (List (Int × Int × Bool × Unit))))
  | 0, _, _, _, _ => none
  | n + 1, p80, p81, p82, p83 =>
    bif (decide (p81 < (p83.length : Int))) then
      bif ((decide ((0 : Int) ≤ p81)) && (decide (p81 < (p83.length : Int)))) then
      (f_spec_MsgOk ((p83.getD p81.toNat (0, 0, false, ())).1) ((p83.getD p81.toNat (0, 0, false, ())).2.1) ((p83.getD p81.toNat (0, 0, false, ())).2.2.1) ()).bind fun y84 =>
      bif (!y84) then
        some (.inl false)
      else
        f_spec_SenderOk.l0 n p80 (IntKind.wrap .i64 (p81 + (1 : Int))) p82 p83
      else none
    else
      some (.inr (p80, p82, p83))
noncomputable def f_spec_SenderOk (x0 : Int) (x1 : List (Int × Int × Bool × Unit)) : Option (Bool) :=
  (f_spec_SenderOk.l0 N false 0 x0 x1).bind fun r85 =>
  cs r85 (fun a86 =>
    some a86) (fun b87 =>
    (f_spec_l1In b87.2.1 0 100000).bind fun y88 =>
    bif y88 then
      bif (decide ((b87.2.2.length : Int) ≤ (30 : Int))) then
        some (decide ((IntKind.wrap .i64 (b87.2.1 + (b87.2.2.length : Int))) ≤ (100000 : Int)))
      else
        some false
    else
      some false)
noncomputable def C72 : Con := ⟨[(.B, true, [(.int .i64), (.sl R2)])], [(false, [.bool])], [(.int .i64), (.sl R2)], [.bool], fun (p : Int × (List (Int × Int × Bool × Unit))) => f_spec_SenderOk p.1 p.2⟩
noncomputable def f_spec_SenderOk.l0.c : LoopCon := ⟨1000, 6, [1, 2, 3], ⟨[(1, .ptr 1000 0), (2, .bool false), (3, .int .i64 0)], [(1000, .box [.int .i64 0, .bor none R2 []])], 1001⟩, [.bool, (.int .i64), (.int .i64), (.sl R2)], [⟨.ret, [2], ⟨[(2, .bool false)], [], 1000⟩, [.bool]⟩, ⟨.exit 0, [1, 2], ⟨[(1, .ptr 1000 0), (2, .bool false)], [(1000, .box [.int .i64 0, .bor none R2 []])], 1001⟩, [.bool, (.int .i64), (.sl R2)]⟩], fun (p : Bool × Int × Int × (List (Int × Int × Bool × Unit))) => f_spec_SenderOk.l0 N p.1 p.2.1 p.2.2.1 p.2.2.2⟩
noncomputable abbrev K72 : Cons := [(57, C57), (73, C73)]
noncomputable abbrev L72 : List (Nat × Loops) := [(72, [(2, f_spec_SenderOk.l0.c)])]
abbrev Q72 : List (Nat × List (Int × Nat) × Nat) := []
noncomputable abbrev X72 : Nat → Ctx := ctxOf tb K72 L72 Q72
theorem f_spec_SenderOk.l0.ok : ∀ n p, (fun (p : Bool × Int × Int × (List (Int × Int × Bool × Unit))) => f_spec_SenderOk.l0 n p.1 p.2.1 p.2.2.1 p.2.2.2) p = iterD (roundOf fs X72 6 72 2 false f_spec_SenderOk.l0.c) n p :=
  iter_of (l := fun n => fun (p : Bool × Int × Int × (List (Int × Int × Bool × Unit))) => f_spec_SenderOk.l0 n p.1 p.2.1 p.2.2.1 p.2.2.2) (fun _ => rfl) (fun n p => by kernel_rfl)
theorem E72 : ∀ x, funRun fs X72 6 72 C72 x = C72.fn x := fun x => by kernel_rfl
theorem B72 : ConB Try.prog 72 C72 := ConB.make FS MIX TY (cons := K72) (L := L72) (ptrs := Q72) ⟨S57, S73, trivial⟩ trivial ⟨⟨⟨N, fun p => f_spec_SenderOk.l0.ok N p⟩, trivial⟩, trivial⟩ rfl rfl E72
theorem S72 : ConS Try.prog 72 C72 := B72.call rfl
/-! spec.Queue: function 40 -/
noncomputable def f_spec_Queue (x0 : Int) (x1 : List (Int × Int × Bool × Unit)) (x2 : Int) (x3 : Int) (x4 : Bool) (x5 : Unit) : Option (Int × (List (Int × Int × Bool × Unit)) × Bool) :=
  (f_spec_l2Sender x0 x1).bind fun y89 =>
  (f_spec_SenderOk x0 x1).bind fun y90 =>
  bif (!y90) then
    some (y89.1, y89.2, false)
  else
    (f_spec_MsgOk x2 x3 x4 ()).bind fun y91 =>
    bif (!y91) then
      some (y89.1, y89.2, false)
    else
      bif (decide ((x1.length : Int) = (30 : Int))) then
        some (y89.1, y89.2, false)
      else
        bif (decide ((IntKind.wrap .i64 (x0 + (x1.length : Int))) = (100000 : Int))) then
          some (y89.1, y89.2, false)
        else
          (f_spec_l1Msg x2 x3 x4 ()).bind fun y92 =>
          bif (Nat.blt (y89.2.length + ([(y92.1, y92.2.1, y92.2.2.1, ())] : List (Int × Int × Bool × Unit)).length) 2932031007402) then
          (some ((y89.2 ++ ([(y92.1, y92.2.1, y92.2.2.1, ())] : List (Int × Int × Bool × Unit))) : List (Int × Int × Bool × Unit))).bind fun z93 =>
          some (y89.1, z93, true)
          else none
noncomputable def C40 : Con := ⟨[(.B, true, [(.int .i64), (.sl R2)]), (.B, true, [(.int .i64), (.int .i64), .bool, (.nl R1)])], [(true, [(.int .i64), (.sl R2)]), (false, [.bool])], [(.int .i64), (.sl R2), (.int .i64), (.int .i64), .bool, (.nl R1)], [(.int .i64), (.sl R2), .bool], fun (p : Int × (List (Int × Int × Bool × Unit)) × Int × Int × Bool × Unit) => f_spec_Queue p.1 p.2.1 p.2.2.1 p.2.2.2.1 p.2.2.2.2.1 p.2.2.2.2.2⟩
noncomputable abbrev K40 : Cons := [(71, C71), (72, C72), (73, C73), (74, C74)]
noncomputable abbrev L40 : List (Nat × Loops) := []
abbrev Q40 : List (Nat × List (Int × Nat) × Nat) := []
noncomputable abbrev X40 : Nat → Ctx := ctxOf tb K40 L40 Q40
theorem E40 : ∀ x, funRun fs X40 6 40 C40 x = C40.fn x := fun x => by kernel_rfl
theorem B40 : ConB Try.prog 40 C40 := ConB.make FS MIX TY (cons := K40) (L := L40) (ptrs := Q40) ⟨S71, S72, S73, S74, trivial⟩ trivial trivial rfl rfl E40
theorem S40 : ConS Try.prog 40 C40 := B40.call rfl
/-! impl.Arrived: function 17 -/
noncomputable def f_impl_Arrived (x0 : Int) (x1 : Int) : Option (Int × Bool) :=
  bif (!(decide (x1 = x0))) then
    some (x0, false)
  else
    (f_impl_from x0 0 99999).bind fun y94 =>
    bif (!y94) then
      some (x0, false)
    else
      some ((IntKind.wrap .i64 (x0 + (1 : Int))), true)
noncomputable def C17 : Con := ⟨[(.B, true, [(.int .i64)]), (.B, false, [(.int .i64)])], [(true, [(.int .i64)]), (false, [.bool])], [(.int .i64), (.int .i64)], [(.int .i64), .bool], fun (p : Int × Int) => f_impl_Arrived p.1 p.2⟩
noncomputable abbrev K17 : Cons := [(58, C58)]
noncomputable abbrev L17 : List (Nat × Loops) := []
abbrev Q17 : List (Nat × List (Int × Nat) × Nat) := []
noncomputable abbrev X17 : Nat → Ctx := ctxOf tb K17 L17 Q17
theorem E17 : ∀ x, funRun fs X17 6 17 C17 x = C17.fn x := fun x => by kernel_rfl
theorem B17 : ConB Try.prog 17 C17 := ConB.make FS MIX TY (cons := K17) (L := L17) (ptrs := Q17) ⟨S58, trivial⟩ trivial trivial rfl rfl E17
theorem S17 : ConS Try.prog 17 C17 := B17.call rfl
/-! impl.Acked: function 41 -/
noncomputable def f_impl_Acked (x0 : Int) (x1 : List (Int × Int × Bool × Unit)) (x2 : Int) : Option (Int × (List (Int × Int × Bool × Unit))) :=
  (f_impl_copySender x0 x1).bind fun y95 =>
  (f_impl_SenderOk y95.1 y95.2).bind fun y96 =>
  bif (!y96) then
    some (y95.1, y95.2)
  else
    (f_impl_from x2 y95.1 (IntKind.wrap .i64 (y95.1 + (y95.2.length : Int)))).bind fun y97 =>
    bif (!y97) then
      some (y95.1, y95.2)
    else
      bif ((decide ((0 : Int) ≤ (IntKind.wrap .i64 (x2 - y95.1)))) && (decide ((IntKind.wrap .i64 (x2 - y95.1)) ≤ (y95.2.length : Int)))) then
      some (x2, ((y95.2.drop (IntKind.wrap .i64 (x2 - y95.1)).toNat).take ((y95.2.length : Int) - (IntKind.wrap .i64 (x2 - y95.1))).toNat))
      else none
noncomputable def C41 : Con := ⟨[(.B, true, [(.int .i64), (.sl R2)]), (.B, false, [(.int .i64)])], [(true, [(.int .i64), (.sl R2)])], [(.int .i64), (.sl R2), (.int .i64)], [(.int .i64), (.sl R2)], fun (p : Int × (List (Int × Int × Bool × Unit)) × Int) => f_impl_Acked p.1 p.2.1 p.2.2⟩
noncomputable abbrev K41 : Cons := [(42, C42), (58, C58), (68, C68)]
noncomputable abbrev L41 : List (Nat × Loops) := []
abbrev Q41 : List (Nat × List (Int × Nat) × Nat) := []
noncomputable abbrev X41 : Nat → Ctx := ctxOf tb K41 L41 Q41
theorem E41 : ∀ x, funRun fs X41 6 41 C41 x = C41.fn x := fun x => by kernel_rfl
theorem B41 : ConB Try.prog 41 C41 := ConB.make FS MIX TY (cons := K41) (L := L41) (ptrs := Q41) ⟨S42, S58, S68, trivial⟩ trivial trivial rfl rfl E41
theorem S41 : ConS Try.prog 41 C41 := B41.call rfl
/-! laws.FnInOrder: function 10 -/
noncomputable def f_laws_FnInOrder.l1 : Nat → Bool → Int → Int → (List (Int × Int × Bool × Unit)) → (List (Int × Int × Bool × Unit)) → (List (Int × Int × Bool × Unit)) → Option ((Bool) ⊕ (Bool × Int × (List (Int × Int × Bool × Unit))))
  | 0, _, _, _, _, _, _ => none
  | n + 1, p119, p120, p121, p122, p123, p124 =>
    bif (decide (p120 < (p123.length : Int))) then
      bif ((decide ((0 : Int) ≤ p120)) && (decide (p120 < (p123.length : Int)))) then
      bif ((decide ((0 : Int) ≤ p120)) && (decide (p120 < (p122.length : Int)))) then
      bif (!(decide (((p123.getD p120.toNat (0, 0, false, ())).2.1) = ((p122.getD p120.toNat (0, 0, false, ())).2.1)))) then
        some (.inl false)
      else
        f_laws_FnInOrder.l1 n p119 (IntKind.wrap .i64 (p120 + (1 : Int))) p121 p122 p123 p124
      else none
      else none
    else
      some (.inr (p119, p121, p124))
noncomputable def f_laws_FnInOrder.l0 : Nat → (List Int) → Bool → Int → Int → Int → (List (Int × Int × Bool × Int × Int × Int × Bool × Unit)) → (List (Int × Int × Bool × Unit)) → (List (Int × Int × Bool × Unit)) → (List (Int × Int × Bool × Unit)) → Option ((Bool) ⊕ (Bool × Int × Int × (List (Int × Int × Bool × Unit)) × (List (Int × Int × Bool × Unit)) × (List (Int × Int × Bool × Unit))))
  | 0, _, _, _, _, _, _, _, _, _ => none
  | n + 1, p99, p100, p101, p102, p103, p104, p105, p106, p107 =>
    bif (decide (p101 < (60 : Int))) then
      (f_laws_at p99 p101).bind fun y108 =>
      bif (decide ((Int.tmod y108 (4 : Int)) = (0 : Int))) then
        (f_impl_Queue p102 p107 1 (Int.tmod (IntKind.wrap .i64 (Int.tdiv y108 (4 : Int))) (6 : Int)) false ()).bind fun y109 =>
        (f_spec_Queue p102 p107 1 (Int.tmod (IntKind.wrap .i64 (Int.tdiv y108 (4 : Int))) (6 : Int)) false ()).bind fun y110 =>
        bif (!(y109.2.2 == y110.2.2)) then
          some (.inl false)
        else
          bif y109.2.2 then
            bif (Nat.blt (p105.length + ([(1, (Int.tmod (IntKind.wrap .i64 (Int.tdiv y108 (4 : Int))) (6 : Int)), false, ())] : List (Int × Int × Bool × Unit)).length) 2932031007402) then
            (some ((p105 ++ ([(1, (Int.tmod (IntKind.wrap .i64 (Int.tdiv y108 (4 : Int))) (6 : Int)), false, ())] : List (Int × Int × Bool × Unit))) : List (Int × Int × Bool × Unit))).bind fun z111 =>
            f_laws_FnInOrder.l0 n p99 p100 (IntKind.wrap .i64 (p101 + (1 : Int))) y109.1 p103 p104 z111 p106 y109.2.1
            else none
          else
            f_laws_FnInOrder.l0 n p99 p100 (IntKind.wrap .i64 (p101 + (1 : Int))) p102 p103 p104 p105 p106 p107
      else
        bif (decide ((Int.tmod y108 (4 : Int)) = (1 : Int))) then
          bif (decide ((0 : Int) < (p107.length : Int))) then
            bif (decide ((p107.length : Int) = (0 : Int))) then none else
            bif ((decide ((0 : Int) ≤ (Int.tmod (IntKind.wrap .i64 (Int.tdiv y108 (4 : Int))) (p107.length : Int)))) && (decide ((Int.tmod (IntKind.wrap .i64 (Int.tdiv y108 (4 : Int))) (p107.length : Int)) < (p107.length : Int)))) then
            bif (Nat.blt (p104.length + ([(0, 0, false, (IntKind.wrap .i64 (p102 + (Int.tmod (IntKind.wrap .i64 (Int.tdiv y108 (4 : Int))) (p107.length : Int)))), (p107.getD (Int.tmod (IntKind.wrap .i64 (Int.tdiv y108 (4 : Int))) (p107.length : Int)).toNat (0, 0, false, ())).1, (p107.getD (Int.tmod (IntKind.wrap .i64 (Int.tdiv y108 (4 : Int))) (p107.length : Int)).toNat (0, 0, false, ())).2.1, (p107.getD (Int.tmod (IntKind.wrap .i64 (Int.tdiv y108 (4 : Int))) (p107.length : Int)).toNat (0, 0, false, ())).2.2.1, ())] : List (Int × Int × Bool × Int × Int × Int × Bool × Unit)).length) 1759218604441) then
            (some ((p104 ++ ([(0, 0, false, (IntKind.wrap .i64 (p102 + (Int.tmod (IntKind.wrap .i64 (Int.tdiv y108 (4 : Int))) (p107.length : Int)))), (p107.getD (Int.tmod (IntKind.wrap .i64 (Int.tdiv y108 (4 : Int))) (p107.length : Int)).toNat (0, 0, false, ())).1, (p107.getD (Int.tmod (IntKind.wrap .i64 (Int.tdiv y108 (4 : Int))) (p107.length : Int)).toNat (0, 0, false, ())).2.1, (p107.getD (Int.tmod (IntKind.wrap .i64 (Int.tdiv y108 (4 : Int))) (p107.length : Int)).toNat (0, 0, false, ())).2.2.1, ())] : List (Int × Int × Bool × Int × Int × Int × Bool × Unit))) : List (Int × Int × Bool × Int × Int × Int × Bool × Unit))).bind fun z112 =>
            f_laws_FnInOrder.l0 n p99 p100 (IntKind.wrap .i64 (p101 + (1 : Int))) p102 p103 z112 p105 p106 p107
            else none
            else none
          else
            f_laws_FnInOrder.l0 n p99 p100 (IntKind.wrap .i64 (p101 + (1 : Int))) p102 p103 p104 p105 p106 p107
        else
          bif (decide ((Int.tmod y108 (4 : Int)) = (2 : Int))) then
            bif (decide ((0 : Int) < (p104.length : Int))) then
              bif (decide ((p104.length : Int) = (0 : Int))) then none else
              bif ((decide ((0 : Int) ≤ (Int.tmod (IntKind.wrap .i64 (Int.tdiv y108 (4 : Int))) (p104.length : Int)))) && (decide ((Int.tmod (IntKind.wrap .i64 (Int.tdiv y108 (4 : Int))) (p104.length : Int)) < (p104.length : Int)))) then
              (f_impl_Arrived p103 ((p104.getD (Int.tmod (IntKind.wrap .i64 (Int.tdiv y108 (4 : Int))) (p104.length : Int)).toNat (0, 0, false, 0, 0, 0, false, ())).2.2.2.1)).bind fun y113 =>
              bif y113.2 then
                bif (Nat.blt (p106.length + ([((p104.getD (Int.tmod (IntKind.wrap .i64 (Int.tdiv y108 (4 : Int))) (p104.length : Int)).toNat (0, 0, false, 0, 0, 0, false, ())).2.2.2.2.1, (p104.getD (Int.tmod (IntKind.wrap .i64 (Int.tdiv y108 (4 : Int))) (p104.length : Int)).toNat (0, 0, false, 0, 0, 0, false, ())).2.2.2.2.2.1, (p104.getD (Int.tmod (IntKind.wrap .i64 (Int.tdiv y108 (4 : Int))) (p104.length : Int)).toNat (0, 0, false, 0, 0, 0, false, ())).2.2.2.2.2.2.1, ())] : List (Int × Int × Bool × Unit)).length) 2932031007402) then
                (some ((p106 ++ ([((p104.getD (Int.tmod (IntKind.wrap .i64 (Int.tdiv y108 (4 : Int))) (p104.length : Int)).toNat (0, 0, false, 0, 0, 0, false, ())).2.2.2.2.1, (p104.getD (Int.tmod (IntKind.wrap .i64 (Int.tdiv y108 (4 : Int))) (p104.length : Int)).toNat (0, 0, false, 0, 0, 0, false, ())).2.2.2.2.2.1, (p104.getD (Int.tmod (IntKind.wrap .i64 (Int.tdiv y108 (4 : Int))) (p104.length : Int)).toNat (0, 0, false, 0, 0, 0, false, ())).2.2.2.2.2.2.1, ())] : List (Int × Int × Bool × Unit))) : List (Int × Int × Bool × Unit))).bind fun z114 =>
                f_laws_FnInOrder.l0 n p99 p100 (IntKind.wrap .i64 (p101 + (1 : Int))) p102 y113.1 p104 p105 z114 p107
                else none
              else
                f_laws_FnInOrder.l0 n p99 p100 (IntKind.wrap .i64 (p101 + (1 : Int))) p102 p103 p104 p105 p106 p107
              else none
            else
              f_laws_FnInOrder.l0 n p99 p100 (IntKind.wrap .i64 (p101 + (1 : Int))) p102 p103 p104 p105 p106 p107
          else
            (f_impl_Acked p102 p107 (IntKind.wrap .i64 (p103 - (Int.tmod (IntKind.wrap .i64 (Int.tdiv y108 (4 : Int))) (2 : Int))))).bind fun y115 =>
            f_laws_FnInOrder.l0 n p99 p100 (IntKind.wrap .i64 (p101 + (1 : Int))) y115.1 p103 p104 p105 p106 y115.2
    else
      some (.inr (p100, p102, p103, p105, p106, p107))
noncomputable def f_laws_FnInOrder (x0 : List Int) : Option (Bool) :=
  (f_laws_big x0).bind fun y98 =>
  bif y98 then
    some true
  else
    (f_laws_FnInOrder.l0 N x0 false 0 0 0 ([] : List (Int × Int × Bool × Int × Int × Int × Bool × Unit)) ([] : List (Int × Int × Bool × Unit)) ([] : List (Int × Int × Bool × Unit)) ([] : List (Int × Int × Bool × Unit))).bind fun r116 =>
    cs r116 (fun a117 =>
      some a117) (fun b118 =>
      bif (decide ((b118.2.2.2.1.length : Int) < (b118.2.2.2.2.1.length : Int))) then
        some false
      else
        bif (decide (b118.2.2.1 < b118.2.1)) then
          some false
        else
          (f_laws_FnInOrder.l1 N b118.1 0 b118.2.1 b118.2.2.2.1 b118.2.2.2.2.1 b118.2.2.2.2.2).bind fun r125 =>
          cs r125 (fun a126 =>
            some a126) (fun b127 =>
            (f_impl_SenderOk b127.2.1 b127.2.2).bind fun y128 =>
            some y128))
noncomputable def C10 : Con := ⟨[(.B, false, [(.sl R0)])], [(false, [.bool])], [(.sl R0)], [.bool], fun (p : List Int) => f_laws_FnInOrder p⟩
noncomputable def f_laws_FnInOrder.l0.c : LoopCon := ⟨1000, 6, [0, 2, 3, 4, 5, 6, 7, 8], ⟨[(0, .bor none R0 []), (2, .bool false), (3, .ptr 1000 0), (4, .ptr 1001 0), (5, .ref 1002 [] none), (6, .ref 1003 [] none), (7, .ref 1004 [] none), (8, .int .i64 0)], [(1000, .box [.int .i64 0, .ref 1005 [] none]), (1001, .box [.int .i64 0]), (1002, .row R3 []), (1003, .row R2 []), (1004, .row R2 []), (1005, .row R2 [])], 1006⟩, [(.sl R0), .bool, (.int .i64), (.int .i64), (.int .i64), (.sl R3), (.sl R2), (.sl R2), (.sl R2)], [⟨.ret, [2], ⟨[(2, .bool false)], [], 1000⟩, [.bool]⟩, ⟨.exit 0, [2, 3, 4, 6, 7], ⟨[(2, .bool false), (3, .ptr 1000 0), (4, .ptr 1001 0), (6, .ref 1002 [] none), (7, .ref 1003 [] none)], [(1000, .box [.int .i64 0, .ref 1004 [] none]), (1001, .box [.int .i64 0]), (1002, .row R2 []), (1003, .row R2 []), (1004, .row R2 [])], 1005⟩, [.bool, (.int .i64), (.int .i64), (.sl R2), (.sl R2), (.sl R2)]⟩], fun (p : List Int × Bool × Int × Int × Int × (List (Int × Int × Bool × Int × Int × Int × Bool × Unit)) × (List (Int × Int × Bool × Unit)) × (List (Int × Int × Bool × Unit)) × (List (Int × Int × Bool × Unit))) => f_laws_FnInOrder.l0 N p.1 p.2.1 p.2.2.1 p.2.2.2.1 p.2.2.2.2.1 p.2.2.2.2.2.1 p.2.2.2.2.2.2.1 p.2.2.2.2.2.2.2.1 p.2.2.2.2.2.2.2.2⟩
noncomputable def f_laws_FnInOrder.l1.c : LoopCon := ⟨1000, 6, [2, 3, 6, 7, 19], ⟨[(2, .bool false), (3, .ptr 1000 0), (6, .ref 1001 [] none), (7, .ref 1002 [] none), (19, .int .i64 0)], [(1000, .box [.int .i64 0, .ref 1003 [] none]), (1001, .row R2 []), (1002, .row R2 []), (1003, .row R2 [])], 1004⟩, [.bool, (.int .i64), (.int .i64), (.sl R2), (.sl R2), (.sl R2)], [⟨.ret, [2], ⟨[(2, .bool false)], [], 1000⟩, [.bool]⟩, ⟨.exit 3, [2, 3], ⟨[(2, .bool false), (3, .ptr 1000 0)], [(1000, .box [.int .i64 0, .ref 1001 [] none]), (1001, .row R2 [])], 1002⟩, [.bool, (.int .i64), (.sl R2)]⟩], fun (p : Bool × Int × Int × (List (Int × Int × Bool × Unit)) × (List (Int × Int × Bool × Unit)) × (List (Int × Int × Bool × Unit))) => f_laws_FnInOrder.l1 N p.1 p.2.1 p.2.2.1 p.2.2.2.1 p.2.2.2.2.1 p.2.2.2.2.2⟩
noncomputable abbrev K10 : Cons := [(17, C17), (37, C37), (38, C38), (39, C39), (40, C40), (41, C41), (42, C42)]
noncomputable abbrev L10 : List (Nat × Loops) := [(10, [(9, f_laws_FnInOrder.l0.c), (37, f_laws_FnInOrder.l1.c)])]
abbrev Q10 : List (Nat × List (Int × Nat) × Nat) := []
noncomputable abbrev X10 : Nat → Ctx := ctxOf tb K10 L10 Q10
theorem f_laws_FnInOrder.l0.ok : ∀ n p, (fun (p : List Int × Bool × Int × Int × Int × (List (Int × Int × Bool × Int × Int × Int × Bool × Unit)) × (List (Int × Int × Bool × Unit)) × (List (Int × Int × Bool × Unit)) × (List (Int × Int × Bool × Unit))) => f_laws_FnInOrder.l0 n p.1 p.2.1 p.2.2.1 p.2.2.2.1 p.2.2.2.2.1 p.2.2.2.2.2.1 p.2.2.2.2.2.2.1 p.2.2.2.2.2.2.2.1 p.2.2.2.2.2.2.2.2) p = iterD (roundOf fs X10 6 10 9 false f_laws_FnInOrder.l0.c) n p :=
  iter_of (l := fun n => fun (p : List Int × Bool × Int × Int × Int × (List (Int × Int × Bool × Int × Int × Int × Bool × Unit)) × (List (Int × Int × Bool × Unit)) × (List (Int × Int × Bool × Unit)) × (List (Int × Int × Bool × Unit))) => f_laws_FnInOrder.l0 n p.1 p.2.1 p.2.2.1 p.2.2.2.1 p.2.2.2.2.1 p.2.2.2.2.2.1 p.2.2.2.2.2.2.1 p.2.2.2.2.2.2.2.1 p.2.2.2.2.2.2.2.2) (fun _ => rfl) (fun n p => by kernel_rfl)
theorem f_laws_FnInOrder.l1.ok : ∀ n p, (fun (p : Bool × Int × Int × (List (Int × Int × Bool × Unit)) × (List (Int × Int × Bool × Unit)) × (List (Int × Int × Bool × Unit))) => f_laws_FnInOrder.l1 n p.1 p.2.1 p.2.2.1 p.2.2.2.1 p.2.2.2.2.1 p.2.2.2.2.2) p = iterD (roundOf fs X10 6 10 37 false f_laws_FnInOrder.l1.c) n p :=
  iter_of (l := fun n => fun (p : Bool × Int × Int × (List (Int × Int × Bool × Unit)) × (List (Int × Int × Bool × Unit)) × (List (Int × Int × Bool × Unit))) => f_laws_FnInOrder.l1 n p.1 p.2.1 p.2.2.1 p.2.2.2.1 p.2.2.2.2.1 p.2.2.2.2.2) (fun _ => rfl) (fun n p => by kernel_rfl)
theorem E10 : ∀ x, funRun fs X10 6 10 C10 x = C10.fn x := fun x => by kernel_rfl
theorem B10 : ConB Try.prog 10 C10 := ConB.make FS MIX TY (cons := K10) (L := L10) (ptrs := Q10) ⟨S17, S37, S38, S39, S40, S41, S42, trivial⟩ trivial ⟨⟨⟨N, fun p => f_laws_FnInOrder.l0.ok N p⟩, ⟨N, fun p => f_laws_FnInOrder.l1.ok N p⟩, trivial⟩, trivial⟩ rfl rfl E10
theorem S10 : ConS Try.prog 10 C10 := B10.call rfl
noncomputable def tbR : Tb := [(5, ⟨false, [(.int .u8)], [], 0, 1⟩),
  (31, ⟨false, [(.sl R0)], [], 5, 24⟩)]
theorem TYR : tyCheck Try.prog tbR = true := by kernel_rfl
theorem CATR : catCheck tbR = true := by kernel_rfl
/-- What is left: the plain law. -/
def Pure : Prop := ∀ x : Tup [(.sl R0)], WfT [(.sl R0)] x → C10.fn x = some (true : Bool)
end
end Go.Abs
