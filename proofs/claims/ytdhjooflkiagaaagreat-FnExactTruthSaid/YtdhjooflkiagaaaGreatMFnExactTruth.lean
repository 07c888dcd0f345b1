import Derived.Test.YtdhjooflkiagaaaGreatProg
import Derived.Test.YtdhjooflkiagaaaGreatAbtE
import Derived.KernelRfl
import Derived.Test.YtdhjooflkiagaaaGreatMFnExactTrutha
namespace Go.Abs
open Go.Proofs
set_option linter.unusedVariables false
set_option maxRecDepth 100000
noncomputable section
/-! impl.truth: function 71 -/
noncomputable def f_impl_truth.l1 : Nat → Int → Int → Int → (List (Int × Int × Bool × List Int)) → Option ((Int × (List (Int × Int × Bool × List Int))) ⊕ (Unit))
  | 0, _, _, _, _ => none
  | n + 1, p561, p562, p563, p564 =>
    bif (decide (p563 < p562)) then
      bif ((decide ((0 : Int) ≤ p563)) && (decide (p563 < (p564.length : Int)))) then
      bif (decide (((p564.getD p563.toNat (0, 0, false, [])).1) = (7 : Int))) then
        bif (decide (((p564.getD p563.toNat (0, 0, false, [])).2.1) = p561)) then
          some (.inl (p563, p564))
        else
          f_impl_truth.l1 n p561 p562 (IntKind.wrap .i64 (p563 + (1 : Int))) p564
      else
        f_impl_truth.l1 n p561 p562 (IntKind.wrap .i64 (p563 + (1 : Int))) p564
      else none
    else
      some (.inr ())
noncomputable def f_impl_truth.l0 : Nat → Int → Int → Int → Int → Int → (List (Int × (List (Int × List Int × Bool)) × (List (List Int × Int × List Bool × Bool × Int × Bool × Int × (List (Int × Bool)))) × (List (Int × (List (Int × Int × Bool × List Int)))) × List Int)) → (List (Int × Int × Bool × Int × Int × Int × Bool × List Int)) → (List Int) → Int → (List Bool) → Bool → Int → Bool → Int → (List (Int × Bool)) → (List (Int × Int × Bool × List Int)) → Option ((Int × (List (Int × Int × Bool × List Int))) ⊕ (Int × Int × Int × (List (Int × (List (Int × List Int × Bool)) × (List (List Int × Int × List Bool × Bool × Int × Bool × Int × (List (Int × Bool)))) × (List (Int × (List (Int × Int × Bool × List Int)))) × List Int)) × (List (Int × Int × Bool × Int × Int × Int × Bool × List Int)) × List Int × Int × List Bool × Bool × Int × Bool × Int × (List (Int × Bool))))
  | 0, _, _, _, _, _, _, _, _, _, _, _, _, _, _, _, _ => none
  | n + 1, p539, p540, p541, p542, p543, p544, p545, p546, p547, p548, p549, p550, p551, p552, p553, p554 =>
    bif (decide (p542 < p541)) then
      bif ((decide ((0 : Int) ≤ p542)) && (decide (p542 < (p554.length : Int)))) then
      bif (decide (((p554.getD p542.toNat (0, 0, false, [])).1) = (3 : Int))) then
        bif (p554.getD p542.toNat (0, 0, false, [])).2.2.1 then
          bif (decide (((p554.getD p542.toNat (0, 0, false, [])).2.1) = p539)) then
            some (.inl (p542, p554))
          else
            f_impl_truth.l0 n p539 p540 p541 (IntKind.wrap .i64 (p542 + (1 : Int))) p543 p544 p545 p546 p547 p548 p549 p550 p551 p552 p553 p554
        else
          f_impl_truth.l0 n p539 p540 p541 (IntKind.wrap .i64 (p542 + (1 : Int))) p543 p544 p545 p546 p547 p548 p549 p550 p551 p552 p553 p554
      else
        f_impl_truth.l0 n p539 p540 p541 (IntKind.wrap .i64 (p542 + (1 : Int))) p543 p544 p545 p546 p547 p548 p549 p550 p551 p552 p553 p554
      else none
    else
      some (.inr (p539, p540, p543, p544, p545, p546, p547, p548, p549, p550, p551, p552, p553))
noncomputable def f_impl_truth (x0 : Int) (x1 : List (Int × (List (Int × List Int × Bool)) × (List (List Int × Int × List Bool × Bool × Int × Bool × Int × (List (Int × Bool)))) × (List (Int × (List (Int × Int × Bool × List Int)))) × List Int)) (x2 : List (Int × Int × Bool × Int × Int × Int × Bool × List Int)) (x3 : Int) : Option (List Int) :=
  bif (decide (x0 = (0 : Int))) then none else
  bif ((decide ((0 : Int) ≤ (Int.tmod x3 x0))) && (decide ((Int.tmod x3 x0) < (x1.length : Int)))) then
  bif ((decide ((0 : Int) ≤ x3)) && (decide (x3 < (((x1.getD (Int.tmod x3 x0).toNat (0, [], [], [], [])).2.2.1).length : Int)))) then
  bif (decide (((((x1.getD (Int.tmod x3 x0).toNat (0, [], [], [], [])).2.2.1).getD x3.toNat ([], 0, [], false, 0, false, 0, [])).2.1) < (0 : Int))) then
    (f_slices_Clone_int_int ((((x1.getD (Int.tmod x3 x0).toNat (0, [], [], [], [])).2.2.1).getD x3.toNat ([], 0, [], false, 0, false, 0, [])).1)).bind fun y534 =>
    some y534
  else
    bif ((decide ((0 : Int) ≤ ((((x1.getD (Int.tmod x3 x0).toNat (0, [], [], [], [])).2.2.1).getD x3.toNat ([], 0, [], false, 0, false, 0, [])).2.1))) && (decide (((((x1.getD (Int.tmod x3 x0).toNat (0, [], [], [], [])).2.2.1).getD x3.toNat ([], 0, [], false, 0, false, 0, [])).2.1) < (x1.length : Int)))) then
    bif ((decide ((0 : Int) ≤ x3)) && (decide (x3 < (((x1.getD ((((x1.getD (Int.tmod x3 x0).toNat (0, [], [], [], [])).2.2.1).getD x3.toNat ([], 0, [], false, 0, false, 0, [])).2.1).toNat (0, [], [], [], [])).2.1).length : Int)))) then
    bif (decide (((((x1.getD ((((x1.getD (Int.tmod x3 x0).toNat (0, [], [], [], [])).2.2.1).getD x3.toNat ([], 0, [], false, 0, false, 0, [])).2.1).toNat (0, [], [], [], [])).2.1).getD x3.toNat (0, [], false)).1) = (2 : Int))) then
      (f_slices_Clone_int_int ((((x1.getD ((((x1.getD (Int.tmod x3 x0).toNat (0, [], [], [], [])).2.2.1).getD x3.toNat ([], 0, [], false, 0, false, 0, [])).2.1).toNat (0, [], [], [], [])).2.1).getD x3.toNat (0, [], false)).2.1)).bind fun y535 =>
      some y535
    else
      (f_impl_coming x0 x1 x2 (Int.tmod x3 x0) ((((x1.getD (Int.tmod x3 x0).toNat (0, [], [], [], [])).2.2.1).getD x3.toNat ([], 0, [], false, 0, false, 0, [])).2.1)).bind fun y536 =>
      (f_slices_Reverse_impl_Msg_impl_Msg y536).bind fun y537 =>
      (some (y537 : List (Int × Int × Bool × List Int))).bind fun z538 =>
      (f_impl_truth.l0 N x3 (Int.tmod x3 x0) (z538.length : Int) 0 x0 x1 x2 ((((x1.getD (Int.tmod x3 x0).toNat (0, [], [], [], [])).2.2.1).getD x3.toNat ([], 0, [], false, 0, false, 0, [])).1) ((((x1.getD (Int.tmod x3 x0).toNat (0, [], [], [], [])).2.2.1).getD x3.toNat ([], 0, [], false, 0, false, 0, [])).2.1) ((((x1.getD (Int.tmod x3 x0).toNat (0, [], [], [], [])).2.2.1).getD x3.toNat ([], 0, [], false, 0, false, 0, [])).2.2.1) ((((x1.getD (Int.tmod x3 x0).toNat (0, [], [], [], [])).2.2.1).getD x3.toNat ([], 0, [], false, 0, false, 0, [])).2.2.2.1) ((((x1.getD (Int.tmod x3 x0).toNat (0, [], [], [], [])).2.2.1).getD x3.toNat ([], 0, [], false, 0, false, 0, [])).2.2.2.2.1) ((((x1.getD (Int.tmod x3 x0).toNat (0, [], [], [], [])).2.2.1).getD x3.toNat ([], 0, [], false, 0, false, 0, [])).2.2.2.2.2.1) ((((x1.getD (Int.tmod x3 x0).toNat (0, [], [], [], [])).2.2.1).getD x3.toNat ([], 0, [], false, 0, false, 0, [])).2.2.2.2.2.2.1) ((((x1.getD (Int.tmod x3 x0).toNat (0, [], [], [], [])).2.2.1).getD x3.toNat ([], 0, [], false, 0, false, 0, [])).2.2.2.2.2.2.2) z538).bind fun r555 =>
      cs r555 (fun a556 =>
        some ((a556.2.getD a556.1.toNat (0, 0, false, [])).2.2.2)) (fun b557 =>
        (f_impl_coming b557.2.2.1 b557.2.2.2.1 b557.2.2.2.2.1 b557.2.2.2.2.2.2.1 b557.2.1).bind fun y558 =>
        (f_slices_Reverse_impl_Msg_impl_Msg y558).bind fun y559 =>
        (some (y559 : List (Int × Int × Bool × List Int))).bind fun z560 =>
        (f_impl_truth.l1 N b557.1 (z560.length : Int) 0 z560).bind fun r565 =>
        cs r565 (fun a566 =>
          some ((a566.2.getD a566.1.toNat (0, 0, false, [])).2.2.2)) (fun b567 =>
          some []))
    else none
    else none
  else none
  else none
noncomputable def C71 : Con := ⟨[(.B, true, [(.int .i64), (.sl R7), (.sl R8)]), (.B, false, [(.int .i64)])], [(false, [(.sl R0)])], [(.int .i64), (.sl R7), (.sl R8), (.int .i64)], [(.sl R0)], fun (p : Int × (List (Int × (List (Int × List Int × Bool)) × (List (List Int × Int × List Bool × Bool × Int × Bool × Int × (List (Int × Bool)))) × (List (Int × (List (Int × Int × Bool × List Int)))) × List Int)) × (List (Int × Int × Bool × Int × Int × Int × Bool × List Int)) × Int) => f_impl_truth p.1 p.2.1 p.2.2.1 p.2.2.2⟩
noncomputable def f_impl_truth.l0.c : LoopCon := ⟨1000, 6, [1, 2, 4, 5, 6, 56, 57, 58], ⟨[(1, .int .i64 0), (2, .ptr 1000 0), (4, .nil (some R0)), (5, .int .i64 0), (6, .ptr 1001 0), (56, .ref 1002 [] none), (57, .int .i64 0), (58, .int .i64 0)], [(1000, .box [.int .i64 0, .bor none R7 [], .bor none R8 []]), (1001, .box [.bor none R0 [], .int .i64 0, .bor none R2 [], .bool false, .int .i64 0, .bool false, .int .i64 0, .bor none R3 []]), (1002, .row R5 [])], 1003⟩, [(.int .i64), (.int .i64), (.int .i64), (.int .i64), (.int .i64), (.sl R7), (.sl R8), (.sl R0), (.int .i64), (.sl R2), .bool, (.int .i64), .bool, (.int .i64), (.sl R3), (.sl R5)], [⟨.ret, [4], ⟨[(4, .ref 1000 [(0, 3)] none)], [(1000, .row R5 [])], 1001⟩, [(.int .i64), (.sl R5)]⟩, ⟨.exit 0, [1, 2, 4, 5, 6], ⟨[(1, .int .i64 0), (2, .ptr 1000 0), (4, .nil (some R0)), (5, .int .i64 0), (6, .ptr 1001 0)], [(1000, .box [.int .i64 0, .bor none R7 [], .bor none R8 []]), (1001, .box [.bor none R0 [], .int .i64 0, .bor none R2 [], .bool false, .int .i64 0, .bool false, .int .i64 0, .bor none R3 []])], 1002⟩, [(.int .i64), (.int .i64), (.int .i64), (.sl R7), (.sl R8), (.sl R0), (.int .i64), (.sl R2), .bool, (.int .i64), .bool, (.int .i64), (.sl R3)]⟩], fun (p : Int × Int × Int × Int × Int × (List (Int × (List (Int × List Int × Bool)) × (List (List Int × Int × List Bool × Bool × Int × Bool × Int × (List (Int × Bool)))) × (List (Int × (List (Int × Int × Bool × List Int)))) × List Int)) × (List (Int × Int × Bool × Int × Int × Int × Bool × List Int)) × List Int × Int × List Bool × Bool × Int × Bool × Int × (List (Int × Bool)) × (List (Int × Int × Bool × List Int))) => f_impl_truth.l0 N p.1 p.2.1 p.2.2.1 p.2.2.2.1 p.2.2.2.2.1 p.2.2.2.2.2.1 p.2.2.2.2.2.2.1 p.2.2.2.2.2.2.2.1 p.2.2.2.2.2.2.2.2.1 p.2.2.2.2.2.2.2.2.2.1 p.2.2.2.2.2.2.2.2.2.2.1 p.2.2.2.2.2.2.2.2.2.2.2.1 p.2.2.2.2.2.2.2.2.2.2.2.2.1 p.2.2.2.2.2.2.2.2.2.2.2.2.2.1 p.2.2.2.2.2.2.2.2.2.2.2.2.2.2.1 p.2.2.2.2.2.2.2.2.2.2.2.2.2.2.2⟩
noncomputable def f_impl_truth.l1.c : LoopCon := ⟨1000, 6, [1, 4, 85, 86, 87], ⟨[(1, .int .i64 0), (4, .nil (some R0)), (85, .ref 1000 [] none), (86, .int .i64 0), (87, .int .i64 0)], [(1000, .row R5 [])], 1001⟩, [(.int .i64), (.int .i64), (.int .i64), (.sl R5)], [⟨.ret, [4], ⟨[(4, .ref 1000 [(0, 3)] none)], [(1000, .row R5 [])], 1001⟩, [(.int .i64), (.sl R5)]⟩, ⟨.exit 2, [4], ⟨[(4, .nil (some R0))], [], 1000⟩, []⟩], fun (p : Int × Int × Int × (List (Int × Int × Bool × List Int))) => f_impl_truth.l1 N p.1 p.2.1 p.2.2.1 p.2.2.2⟩
noncomputable abbrev K71 : Cons := [(101, C101), (146, C146), (147, C147)]
noncomputable abbrev L71 : List (Nat × Loops) := [(71, [(11, f_impl_truth.l0.c), (19, f_impl_truth.l1.c)])]
abbrev Q71 : List (Nat × List (Int × Nat) × Nat) := []
noncomputable abbrev X71 : Nat → Ctx := ctxOf tb K71 L71 Q71
theorem f_impl_truth.l0.ok : ∀ n p, (fun (p : Int × Int × Int × Int × Int × (List (Int × (List (Int × List Int × Bool)) × (List (List Int × Int × List Bool × Bool × Int × Bool × Int × (List (Int × Bool)))) × (List (Int × (List (Int × Int × Bool × List Int)))) × List Int)) × (List (Int × Int × Bool × Int × Int × Int × Bool × List Int)) × List Int × Int × List Bool × Bool × Int × Bool × Int × (List (Int × Bool)) × (List (Int × Int × Bool × List Int))) => f_impl_truth.l0 n p.1 p.2.1 p.2.2.1 p.2.2.2.1 p.2.2.2.2.1 p.2.2.2.2.2.1 p.2.2.2.2.2.2.1 p.2.2.2.2.2.2.2.1 p.2.2.2.2.2.2.2.2.1 p.2.2.2.2.2.2.2.2.2.1 p.2.2.2.2.2.2.2.2.2.2.1 p.2.2.2.2.2.2.2.2.2.2.2.1 p.2.2.2.2.2.2.2.2.2.2.2.2.1 p.2.2.2.2.2.2.2.2.2.2.2.2.2.1 p.2.2.2.2.2.2.2.2.2.2.2.2.2.2.1 p.2.2.2.2.2.2.2.2.2.2.2.2.2.2.2) p = iterD (roundOf fs X71 6 71 11 false f_impl_truth.l0.c) n p :=
  iter_of (l := fun n => fun (p : Int × Int × Int × Int × Int × (List (Int × (List (Int × List Int × Bool)) × (List (List Int × Int × List Bool × Bool × Int × Bool × Int × (List (Int × Bool)))) × (List (Int × (List (Int × Int × Bool × List Int)))) × List Int)) × (List (Int × Int × Bool × Int × Int × Int × Bool × List Int)) × List Int × Int × List Bool × Bool × Int × Bool × Int × (List (Int × Bool)) × (List (Int × Int × Bool × List Int))) => f_impl_truth.l0 n p.1 p.2.1 p.2.2.1 p.2.2.2.1 p.2.2.2.2.1 p.2.2.2.2.2.1 p.2.2.2.2.2.2.1 p.2.2.2.2.2.2.2.1 p.2.2.2.2.2.2.2.2.1 p.2.2.2.2.2.2.2.2.2.1 p.2.2.2.2.2.2.2.2.2.2.1 p.2.2.2.2.2.2.2.2.2.2.2.1 p.2.2.2.2.2.2.2.2.2.2.2.2.1 p.2.2.2.2.2.2.2.2.2.2.2.2.2.1 p.2.2.2.2.2.2.2.2.2.2.2.2.2.2.1 p.2.2.2.2.2.2.2.2.2.2.2.2.2.2.2) (fun _ => rfl) (fun n p => by kernel_rfl)
theorem f_impl_truth.l1.ok : ∀ n p, (fun (p : Int × Int × Int × (List (Int × Int × Bool × List Int))) => f_impl_truth.l1 n p.1 p.2.1 p.2.2.1 p.2.2.2) p = iterD (roundOf fs X71 6 71 19 false f_impl_truth.l1.c) n p :=
  iter_of (l := fun n => fun (p : Int × Int × Int × (List (Int × Int × Bool × List Int))) => f_impl_truth.l1 n p.1 p.2.1 p.2.2.1 p.2.2.2) (fun _ => rfl) (fun n p => by kernel_rfl)
theorem E71 : ∀ x, funRun fs X71 6 71 C71 x = C71.fn x := fun x => by kernel_rfl
theorem B71 : ConB Tryz.prog 71 C71 := ConB.make FS MIX TY (cons := K71) (L := L71) (ptrs := Q71) ⟨S101, S146, S147, trivial⟩ trivial ⟨⟨⟨N, fun p => f_impl_truth.l0.ok N p⟩, ⟨N, fun p => f_impl_truth.l1.ok N p⟩, trivial⟩, trivial⟩ rfl rfl E71
theorem S71 : ConS Tryz.prog 71 C71 := B71.call rfl
/-! impl.Truth: function 33 -/
noncomputable def f_impl_Truth (x0 : Int) (x1 : List (Int × (List (Int × List Int × Bool)) × (List (List Int × Int × List Bool × Bool × Int × Bool × Int × (List (Int × Bool)))) × (List (Int × (List (Int × Int × Bool × List Int)))) × List Int)) (x2 : List (Int × Int × Bool × Int × Int × Int × Bool × List Int)) (x3 : Int) : Option (List Int) :=
  (f_impl_WorldOk x0 x1 x2).bind fun y568 =>
  bif (!y568) then
    some []
  else
    (f_impl_isPage x3).bind fun y569 =>
    bif (!y569) then
      some []
    else
      (f_impl_truth x0 x1 x2 x3).bind fun y570 =>
      some y570
noncomputable def C33 : Con := ⟨[(.B, true, [(.int .i64), (.sl R7), (.sl R8)]), (.B, false, [(.int .i64)])], [(false, [(.sl R0)])], [(.int .i64), (.sl R7), (.sl R8), (.int .i64)], [(.sl R0)], fun (p : Int × (List (Int × (List (Int × List Int × Bool)) × (List (List Int × Int × List Bool × Bool × Int × Bool × Int × (List (Int × Bool)))) × (List (Int × (List (Int × Int × Bool × List Int)))) × List Int)) × (List (Int × Int × Bool × Int × Int × Int × Bool × List Int)) × Int) => f_impl_Truth p.1 p.2.1 p.2.2.1 p.2.2.2⟩
noncomputable abbrev K33 : Cons := [(64, C64), (65, C65), (71, C71)]
noncomputable abbrev L33 : List (Nat × Loops) := []
abbrev Q33 : List (Nat × List (Int × Nat) × Nat) := []
noncomputable abbrev X33 : Nat → Ctx := ctxOf tb K33 L33 Q33
theorem E33 : ∀ x, funRun fs X33 6 33 C33 x = C33.fn x := fun x => by kernel_rfl
theorem B33 : ConB Tryz.prog 33 C33 := ConB.make FS MIX TY (cons := K33) (L := L33) (ptrs := Q33) ⟨S64, S65, S71, trivial⟩ trivial trivial rfl rfl E33
theorem S33 : ConS Tryz.prog 33 C33 := B33.call rfl
/-! laws.eqIntS: function 39 -/
noncomputable def f_laws_eqIntS.l0 : Nat → (List Int) → (List Int) → Bool → Int → Option ((Bool) ⊕ (Bool))
  | 0, _, _, _, _ => none
  | n + 1, p571, p572, p573, p574 =>
    bif (decide (p574 < (p571.length : Int))) then
      bif ((decide ((0 : Int) ≤ p574)) && (decide (p574 < (p571.length : Int)))) then
      bif ((decide ((0 : Int) ≤ p574)) && (decide (p574 < (p572.length : Int)))) then
      bif (!(decide ((p571.getD p574.toNat 0) = (p572.getD p574.toNat 0)))) then
        some (.inl false)
      else
        f_laws_eqIntS.l0 n p571 p572 p573 (IntKind.wrap .i64 (p574 + (1 : Int)))
      else none
      else none
    else
      some (.inr p573)
noncomputable def f_laws_eqIntS (x0 : List Int) (x1 : List Int) : Option (Bool) :=
  bif (!(decide ((x0.length : Int) = (x1.length : Int)))) then
    some false
  else
    (f_laws_eqIntS.l0 N x0 x1 false 0).bind fun r575 =>
    cs r575 (fun a576 =>
      some a576) (fun b577 =>
      some true)
noncomputable def C39 : Con := ⟨[(.B, false, [(.sl R0)]), (.B, false, [(.sl R0)])], [(false, [.bool])], [(.sl R0), (.sl R0)], [.bool], fun (p : List Int × List Int) => f_laws_eqIntS p.1 p.2⟩
noncomputable def f_laws_eqIntS.l0.c : LoopCon := ⟨1000, 6, [0, 1, 4, 5], ⟨[(0, .bor none R0 []), (1, .bor none R0 []), (4, .bool false), (5, .int .i64 0)], [], 1000⟩, [(.sl R0), (.sl R0), .bool, (.int .i64)], [⟨.ret, [4], ⟨[(4, .bool false)], [], 1000⟩, [.bool]⟩, ⟨.exit 0, [4], ⟨[(4, .bool false)], [], 1000⟩, [.bool]⟩], fun (p : List Int × List Int × Bool × Int) => f_laws_eqIntS.l0 N p.1 p.2.1 p.2.2.1 p.2.2.2⟩
noncomputable abbrev K39 : Cons := []
noncomputable abbrev L39 : List (Nat × Loops) := [(39, [(4, f_laws_eqIntS.l0.c)])]
abbrev Q39 : List (Nat × List (Int × Nat) × Nat) := []
noncomputable abbrev X39 : Nat → Ctx := ctxOf tb K39 L39 Q39
theorem f_laws_eqIntS.l0.ok : ∀ n p, (fun (p : List Int × List Int × Bool × Int) => f_laws_eqIntS.l0 n p.1 p.2.1 p.2.2.1 p.2.2.2) p = iterD (roundOf fs X39 6 39 4 false f_laws_eqIntS.l0.c) n p :=
  iter_of (l := fun n => fun (p : List Int × List Int × Bool × Int) => f_laws_eqIntS.l0 n p.1 p.2.1 p.2.2.1 p.2.2.2) (fun _ => rfl) (fun n p => by kernel_rfl)
theorem E39 : ∀ x, funRun fs X39 6 39 C39 x = C39.fn x := fun x => by kernel_rfl
theorem B39 : ConB Tryz.prog 39 C39 := ConB.make FS MIX TY (cons := K39) (L := L39) (ptrs := Q39) trivial trivial ⟨⟨⟨N, fun p => f_laws_eqIntS.l0.ok N p⟩, trivial⟩, trivial⟩ rfl rfl E39
theorem S39 : ConS Tryz.prog 39 C39 := B39.call rfl
/-! laws.eqFrame: function 164 -/
noncomputable def f_laws_eqFrame (x0 : Int) (x1 : List Int) (x2 : Bool) (x3 : Int) (x4 : List Int) (x5 : Bool) : Option (Bool) :=
  bif (!(decide (x0 = x3))) then
    some false
  else
    (f_laws_eqIntS x1 x4).bind fun y578 =>
    bif (!y578) then
      some false
    else
      bif (!(x2 == x5)) then
        some false
      else
        some true
noncomputable def C164 : Con := ⟨[(.B, true, [(.int .i64), (.sl R0), .bool]), (.B, true, [(.int .i64), (.sl R0), .bool])], [(false, [.bool])], [(.int .i64), (.sl R0), .bool, (.int .i64), (.sl R0), .bool], [.bool], fun (p : Int × List Int × Bool × Int × List Int × Bool) => f_laws_eqFrame p.1 p.2.1 p.2.2.1 p.2.2.2.1 p.2.2.2.2.1 p.2.2.2.2.2⟩
noncomputable abbrev K164 : Cons := [(39, C39)]
noncomputable abbrev L164 : List (Nat × Loops) := []
abbrev Q164 : List (Nat × List (Int × Nat) × Nat) := []
noncomputable abbrev X164 : Nat → Ctx := ctxOf tb K164 L164 Q164
theorem E164 : ∀ x, funRun fs X164 6 164 C164 x = C164.fn x := fun x => by kernel_rfl
theorem B164 : ConB Tryz.prog 164 C164 := ConB.make FS MIX TY (cons := K164) (L := L164) (ptrs := Q164) ⟨S39, trivial⟩ trivial trivial rfl rfl E164
theorem S164 : ConS Tryz.prog 164 C164 := B164.call rfl
/-! laws.eqFrameS: function 87 -/
noncomputable def f_laws_eqFrameS.l0 : Nat → (List (Int × List Int × Bool)) → (List (Int × List Int × Bool)) → Bool → Int → Option ((Bool) ⊕ (Bool))
  | 0, _, _, _, _ => none
  | n + 1, p579, p580, p581, p582 =>
    bif (decide (p582 < (p579.length : Int))) then
      bif ((decide ((0 : Int) ≤ p582)) && (decide (p582 < (p579.length : Int)))) then
      bif ((decide ((0 : Int) ≤ p582)) && (decide (p582 < (p580.length : Int)))) then
      (f_laws_eqFrame ((p579.getD p582.toNat (0, [], false)).1) ((p579.getD p582.toNat (0, [], false)).2.1) ((p579.getD p582.toNat (0, [], false)).2.2) ((p580.getD p582.toNat (0, [], false)).1) ((p580.getD p582.toNat (0, [], false)).2.1) ((p580.getD p582.toNat (0, [], false)).2.2)).bind fun y583 =>
      bif (!y583) then
        some (.inl false)
      else
        f_laws_eqFrameS.l0 n p579 p580 p581 (IntKind.wrap .i64 (p582 + (1 : Int)))
      else none
      else none
    else
      some (.inr p581)
noncomputable def f_laws_eqFrameS (x0 : List (Int × List Int × Bool)) (x1 : List (Int × List Int × Bool)) : Option (Bool) :=
  bif (!(decide ((x0.length : Int) = (x1.length : Int)))) then
    some false
  else
    (f_laws_eqFrameS.l0 N x0 x1 false 0).bind fun r584 =>
    cs r584 (fun a585 =>
      some a585) (fun b586 =>
      some true)
noncomputable def C87 : Con := ⟨[(.B, false, [(.sl R1)]), (.B, false, [(.sl R1)])], [(false, [.bool])], [(.sl R1), (.sl R1)], [.bool], fun (p : (List (Int × List Int × Bool)) × (List (Int × List Int × Bool))) => f_laws_eqFrameS p.1 p.2⟩
noncomputable def f_laws_eqFrameS.l0.c : LoopCon := ⟨1000, 6, [0, 1, 4, 5], ⟨[(0, .bor none R1 []), (1, .bor none R1 []), (4, .bool false), (5, .int .i64 0)], [], 1000⟩, [(.sl R1), (.sl R1), .bool, (.int .i64)], [⟨.ret, [4], ⟨[(4, .bool false)], [], 1000⟩, [.bool]⟩, ⟨.exit 0, [4], ⟨[(4, .bool false)], [], 1000⟩, [.bool]⟩], fun (p : (List (Int × List Int × Bool)) × (List (Int × List Int × Bool)) × Bool × Int) => f_laws_eqFrameS.l0 N p.1 p.2.1 p.2.2.1 p.2.2.2⟩
noncomputable abbrev K87 : Cons := [(164, C164)]
noncomputable abbrev L87 : List (Nat × Loops) := [(87, [(4, f_laws_eqFrameS.l0.c)])]
abbrev Q87 : List (Nat × List (Int × Nat) × Nat) := []
noncomputable abbrev X87 : Nat → Ctx := ctxOf tb K87 L87 Q87
theorem f_laws_eqFrameS.l0.ok : ∀ n p, (fun (p : (List (Int × List Int × Bool)) × (List (Int × List Int × Bool)) × Bool × Int) => f_laws_eqFrameS.l0 n p.1 p.2.1 p.2.2.1 p.2.2.2) p = iterD (roundOf fs X87 6 87 4 false f_laws_eqFrameS.l0.c) n p :=
  iter_of (l := fun n => fun (p : (List (Int × List Int × Bool)) × (List (Int × List Int × Bool)) × Bool × Int) => f_laws_eqFrameS.l0 n p.1 p.2.1 p.2.2.1 p.2.2.2) (fun _ => rfl) (fun n p => by kernel_rfl)
theorem E87 : ∀ x, funRun fs X87 6 87 C87 x = C87.fn x := fun x => by kernel_rfl
theorem B87 : ConB Tryz.prog 87 C87 := ConB.make FS MIX TY (cons := K87) (L := L87) (ptrs := Q87) ⟨S164, trivial⟩ trivial ⟨⟨⟨N, fun p => f_laws_eqFrameS.l0.ok N p⟩, trivial⟩, trivial⟩ rfl rfl E87
theorem S87 : ConS Tryz.prog 87 C87 := B87.call rfl
/-! laws.eqBoolS: function 203 -/
noncomputable def f_laws_eqBoolS.l0 : Nat → (List Bool) → (List Bool) → Bool → Int → Option ((Bool) ⊕ (Bool))
  | 0, _, _, _, _ => none
  | n + 1, p587, p588, p589, p590 =>
    bif (decide (p590 < (p587.length : Int))) then
      bif ((decide ((0 : Int) ≤ p590)) && (decide (p590 < (p587.length : Int)))) then
      bif ((decide ((0 : Int) ≤ p590)) && (decide (p590 < (p588.length : Int)))) then
      bif (!((p587.getD p590.toNat false) == (p588.getD p590.toNat false))) then
        some (.inl false)
      else
        f_laws_eqBoolS.l0 n p587 p588 p589 (IntKind.wrap .i64 (p590 + (1 : Int)))
      else none
      else none
    else
      some (.inr p589)
noncomputable def f_laws_eqBoolS (x0 : List Bool) (x1 : List Bool) : Option (Bool) :=
  bif (!(decide ((x0.length : Int) = (x1.length : Int)))) then
    some false
  else
    (f_laws_eqBoolS.l0 N x0 x1 false 0).bind fun r591 =>
    cs r591 (fun a592 =>
      some a592) (fun b593 =>
      some true)
noncomputable def C203 : Con := ⟨[(.B, false, [(.sl R2)]), (.B, false, [(.sl R2)])], [(false, [.bool])], [(.sl R2), (.sl R2)], [.bool], fun (p : List Bool × List Bool) => f_laws_eqBoolS p.1 p.2⟩
noncomputable def f_laws_eqBoolS.l0.c : LoopCon := ⟨1000, 6, [0, 1, 4, 5], ⟨[(0, .bor none R2 []), (1, .bor none R2 []), (4, .bool false), (5, .int .i64 0)], [], 1000⟩, [(.sl R2), (.sl R2), .bool, (.int .i64)], [⟨.ret, [4], ⟨[(4, .bool false)], [], 1000⟩, [.bool]⟩, ⟨.exit 0, [4], ⟨[(4, .bool false)], [], 1000⟩, [.bool]⟩], fun (p : List Bool × List Bool × Bool × Int) => f_laws_eqBoolS.l0 N p.1 p.2.1 p.2.2.1 p.2.2.2⟩
noncomputable abbrev K203 : Cons := []
noncomputable abbrev L203 : List (Nat × Loops) := [(203, [(4, f_laws_eqBoolS.l0.c)])]
abbrev Q203 : List (Nat × List (Int × Nat) × Nat) := []
noncomputable abbrev X203 : Nat → Ctx := ctxOf tb K203 L203 Q203
theorem f_laws_eqBoolS.l0.ok : ∀ n p, (fun (p : List Bool × List Bool × Bool × Int) => f_laws_eqBoolS.l0 n p.1 p.2.1 p.2.2.1 p.2.2.2) p = iterD (roundOf fs X203 6 203 4 false f_laws_eqBoolS.l0.c) n p :=
  iter_of (l := fun n => fun (p : List Bool × List Bool × Bool × Int) => f_laws_eqBoolS.l0 n p.1 p.2.1 p.2.2.1 p.2.2.2) (fun _ => rfl) (fun n p => by kernel_rfl)
theorem E203 : ∀ x, funRun fs X203 6 203 C203 x = C203.fn x := fun x => by kernel_rfl
theorem B203 : ConB Tryz.prog 203 C203 := ConB.make FS MIX TY (cons := K203) (L := L203) (ptrs := Q203) trivial trivial ⟨⟨⟨N, fun p => f_laws_eqBoolS.l0.ok N p⟩, trivial⟩, trivial⟩ rfl rfl E203
theorem S203 : ConS Tryz.prog 203 C203 := B203.call rfl
/-! laws.eqWait: function 204 -/
noncomputable def f_laws_eqWait (x0 : Int) (x1 : Bool) (x2 : Int) (x3 : Bool) : Option (Bool) :=
  bif (!(decide (x0 = x2))) then
    some false
  else
    bif (!(x1 == x3)) then
      some false
    else
      some true
noncomputable def C204 : Con := ⟨[(.B, true, [(.int .i64), .bool]), (.B, true, [(.int .i64), .bool])], [(false, [.bool])], [(.int .i64), .bool, (.int .i64), .bool], [.bool], fun (p : Int × Bool × Int × Bool) => f_laws_eqWait p.1 p.2.1 p.2.2.1 p.2.2.2⟩
noncomputable abbrev K204 : Cons := []
noncomputable abbrev L204 : List (Nat × Loops) := []
abbrev Q204 : List (Nat × List (Int × Nat) × Nat) := []
noncomputable abbrev X204 : Nat → Ctx := ctxOf tb K204 L204 Q204
theorem E204 : ∀ x, funRun fs X204 6 204 C204 x = C204.fn x := fun x => by kernel_rfl
theorem B204 : ConB Tryz.prog 204 C204 := ConB.make FS MIX TY (cons := K204) (L := L204) (ptrs := Q204) trivial trivial trivial rfl rfl E204
theorem S204 : ConS Tryz.prog 204 C204 := B204.call rfl
/-! laws.eqWaitS: function 205 -/
noncomputable def f_laws_eqWaitS.l0 : Nat → (List (Int × Bool)) → (List (Int × Bool)) → Bool → Int → Option ((Bool) ⊕ (Bool))
  | 0, _, _, _, _ => none
  | n + 1, p594, p595, p596, p597 =>
    bif (decide (p597 < (p594.length : Int))) then
      bif ((decide ((0 : Int) ≤ p597)) && (decide (p597 < (p594.length : Int)))) then
      bif ((decide ((0 : Int) ≤ p597)) && (decide (p597 < (p595.length : Int)))) then
      (f_laws_eqWait ((p594.getD p597.toNat (0, false)).1) ((p594.getD p597.toNat (0, false)).2) ((p595.getD p597.toNat (0, false)).1) ((p595.getD p597.toNat (0, false)).2)).bind fun y598 =>
      bif (!y598) then
        some (.inl false)
      else
        f_laws_eqWaitS.l0 n p594 p595 p596 (IntKind.wrap .i64 (p597 + (1 : Int)))
      else none
      else none
    else
      some (.inr p596)
noncomputable def f_laws_eqWaitS (x0 : List (Int × Bool)) (x1 : List (Int × Bool)) : Option (Bool) :=
  bif (!(decide ((x0.length : Int) = (x1.length : Int)))) then
    some false
  else
    (f_laws_eqWaitS.l0 N x0 x1 false 0).bind fun r599 =>
    cs r599 (fun a600 =>
      some a600) (fun b601 =>
      some true)
noncomputable def C205 : Con := ⟨[(.B, false, [(.sl R3)]), (.B, false, [(.sl R3)])], [(false, [.bool])], [(.sl R3), (.sl R3)], [.bool], fun (p : (List (Int × Bool)) × (List (Int × Bool))) => f_laws_eqWaitS p.1 p.2⟩
noncomputable def f_laws_eqWaitS.l0.c : LoopCon := ⟨1000, 6, [0, 1, 4, 5], ⟨[(0, .bor none R3 []), (1, .bor none R3 []), (4, .bool false), (5, .int .i64 0)], [], 1000⟩, [(.sl R3), (.sl R3), .bool, (.int .i64)], [⟨.ret, [4], ⟨[(4, .bool false)], [], 1000⟩, [.bool]⟩, ⟨.exit 0, [4], ⟨[(4, .bool false)], [], 1000⟩, [.bool]⟩], fun (p : (List (Int × Bool)) × (List (Int × Bool)) × Bool × Int) => f_laws_eqWaitS.l0 N p.1 p.2.1 p.2.2.1 p.2.2.2⟩
noncomputable abbrev K205 : Cons := [(204, C204)]
noncomputable abbrev L205 : List (Nat × Loops) := [(205, [(4, f_laws_eqWaitS.l0.c)])]
abbrev Q205 : List (Nat × List (Int × Nat) × Nat) := []
noncomputable abbrev X205 : Nat → Ctx := ctxOf tb K205 L205 Q205
theorem f_laws_eqWaitS.l0.ok : ∀ n p, (fun (p : (List (Int × Bool)) × (List (Int × Bool)) × Bool × Int) => f_laws_eqWaitS.l0 n p.1 p.2.1 p.2.2.1 p.2.2.2) p = iterD (roundOf fs X205 6 205 4 false f_laws_eqWaitS.l0.c) n p :=
  iter_of (l := fun n => fun (p : (List (Int × Bool)) × (List (Int × Bool)) × Bool × Int) => f_laws_eqWaitS.l0 n p.1 p.2.1 p.2.2.1 p.2.2.2) (fun _ => rfl) (fun n p => by kernel_rfl)
theorem E205 : ∀ x, funRun fs X205 6 205 C205 x = C205.fn x := fun x => by kernel_rfl
theorem B205 : ConB Tryz.prog 205 C205 := ConB.make FS MIX TY (cons := K205) (L := L205) (ptrs := Q205) ⟨S204, trivial⟩ trivial ⟨⟨⟨N, fun p => f_laws_eqWaitS.l0.ok N p⟩, trivial⟩, trivial⟩ rfl rfl E205
theorem S205 : ConS Tryz.prog 205 C205 := B205.call rfl
/-! laws.eqHome: function 165 -/
noncomputable def f_laws_eqHome (x0 : List Int) (x1 : Int) (x2 : List Bool) (x3 : Bool) (x4 : Int) (x5 : Bool) (x6 : Int) (x7 : List (Int × Bool)) (x8 : List Int) (x9 : Int) (x10 : List Bool) (x11 : Bool) (x12 : Int) (x13 : Bool) (x14 : Int) (x15 : List (Int × Bool)) : Option (Bool) :=
  (f_laws_eqIntS x0 x8).bind fun y602 =>
  bif (!y602) then
    some false
  else
    bif (!(decide (x1 = x9))) then
      some false
    else
      (f_laws_eqBoolS x2 x10).bind fun y603 =>
      bif (!y603) then
        some false
      else
        bif (!(x3 == x11)) then
          some false
        else
          (f_laws_eqWait x4 x5 x12 x13).bind fun y604 =>
          bif (!y604) then
            some false
          else
            bif (!(decide (x6 = x14))) then
              some false
            else
              (f_laws_eqWaitS x7 x15).bind fun y605 =>
              bif (!y605) then
                some false
              else
                some true
noncomputable def C165 : Con := ⟨[(.B, true, [(.sl R0), (.int .i64), (.sl R2), .bool, (.int .i64), .bool, (.int .i64), (.sl R3)]), (.B, true, [(.sl R0), (.int .i64), (.sl R2), .bool, (.int .i64), .bool, (.int .i64), (.sl R3)])], [(false, [.bool])], [(.sl R0), (.int .i64), (.sl R2), .bool, (.int .i64), .bool, (.int .i64), (.sl R3), (.sl R0), (.int .i64), (.sl R2), .bool, (.int .i64), .bool, (.int .i64), (.sl R3)], [.bool], fun (p : List Int × Int × List Bool × Bool × Int × Bool × Int × (List (Int × Bool)) × List Int × Int × List Bool × Bool × Int × Bool × Int × (List (Int × Bool))) => f_laws_eqHome p.1 p.2.1 p.2.2.1 p.2.2.2.1 p.2.2.2.2.1 p.2.2.2.2.2.1 p.2.2.2.2.2.2.1 p.2.2.2.2.2.2.2.1 p.2.2.2.2.2.2.2.2.1 p.2.2.2.2.2.2.2.2.2.1 p.2.2.2.2.2.2.2.2.2.2.1 p.2.2.2.2.2.2.2.2.2.2.2.1 p.2.2.2.2.2.2.2.2.2.2.2.2.1 p.2.2.2.2.2.2.2.2.2.2.2.2.2.1 p.2.2.2.2.2.2.2.2.2.2.2.2.2.2.1 p.2.2.2.2.2.2.2.2.2.2.2.2.2.2.2⟩
noncomputable abbrev K165 : Cons := [(39, C39), (203, C203), (204, C204), (205, C205)]
noncomputable abbrev L165 : List (Nat × Loops) := []
abbrev Q165 : List (Nat × List (Int × Nat) × Nat) := []
noncomputable abbrev X165 : Nat → Ctx := ctxOf tb K165 L165 Q165
theorem E165 : ∀ x, funRun fs X165 6 165 C165 x = C165.fn x := fun x => by kernel_rfl
theorem B165 : ConB Tryz.prog 165 C165 := ConB.make FS MIX TY (cons := K165) (L := L165) (ptrs := Q165) ⟨S39, S203, S204, S205, trivial⟩ trivial trivial rfl rfl E165
theorem S165 : ConS Tryz.prog 165 C165 := B165.call rfl
/-! laws.eqHomeS: function 88 -/
noncomputable def f_laws_eqHomeS.l0 : Nat → (List (List Int × Int × List Bool × Bool × Int × Bool × Int × (List (Int × Bool)))) → (List (List Int × Int × List Bool × Bool × Int × Bool × Int × (List (Int × Bool)))) → Bool → Int → Option ((Bool) ⊕ (Bool))
  | 0, _, _, _, _ => none
  | n + 1, p606, p607, p608, p609 =>
    bif (decide (p609 < (p606.length : Int))) then
      bif ((decide ((0 : Int) ≤ p609)) && (decide (p609 < (p606.length : Int)))) then
      bif ((decide ((0 : Int) ≤ p609)) && (decide (p609 < (p607.length : Int)))) then
      (f_laws_eqHome ((p606.getD p609.toNat ([], 0, [], false, 0, false, 0, [])).1) ((p606.getD p609.toNat ([], 0, [], false, 0, false, 0, [])).2.1) ((p606.getD p609.toNat ([], 0, [], false, 0, false, 0, [])).2.2.1) ((p606.getD p609.toNat ([], 0, [], false, 0, false, 0, [])).2.2.2.1) ((p606.getD p609.toNat ([], 0, [], false, 0, false, 0, [])).2.2.2.2.1) ((p606.getD p609.toNat ([], 0, [], false, 0, false, 0, [])).2.2.2.2.2.1) ((p606.getD p609.toNat ([], 0, [], false, 0, false, 0, [])).2.2.2.2.2.2.1) ((p606.getD p609.toNat ([], 0, [], false, 0, false, 0, [])).2.2.2.2.2.2.2) ((p607.getD p609.toNat ([], 0, [], false, 0, false, 0, [])).1) ((p607.getD p609.toNat ([], 0, [], false, 0, false, 0, [])).2.1) ((p607.getD p609.toNat ([], 0, [], false, 0, false, 0, [])).2.2.1) ((p607.getD p609.toNat ([], 0, [], false, 0, false, 0, [])).2.2.2.1) ((p607.getD p609.toNat ([], 0, [], false, 0, false, 0, [])).2.2.2.2.1) ((p607.getD p609.toNat ([], 0, [], false, 0, false, 0, [])).2.2.2.2.2.1) ((p607.getD p609.toNat ([], 0, [], false, 0, false, 0, [])).2.2.2.2.2.2.1) ((p607.getD p609.toNat ([], 0, [], false, 0, false, 0, [])).2.2.2.2.2.2.2)).bind fun y610 =>
      bif (!y610) then
        some (.inl false)
      else
        f_laws_eqHomeS.l0 n p606 p607 p608 (IntKind.wrap .i64 (p609 + (1 : Int)))
      else none
      else none
    else
      some (.inr p608)
noncomputable def f_laws_eqHomeS (x0 : List (List Int × Int × List Bool × Bool × Int × Bool × Int × (List (Int × Bool)))) (x1 : List (List Int × Int × List Bool × Bool × Int × Bool × Int × (List (Int × Bool)))) : Option (Bool) :=
  bif (!(decide ((x0.length : Int) = (x1.length : Int)))) then
    some false
  else
    (f_laws_eqHomeS.l0 N x0 x1 false 0).bind fun r611 =>
    cs r611 (fun a612 =>
      some a612) (fun b613 =>
      some true)
noncomputable def C88 : Con := ⟨[(.B, false, [(.sl R4)]), (.B, false, [(.sl R4)])], [(false, [.bool])], [(.sl R4), (.sl R4)], [.bool], fun (p : (List (List Int × Int × List Bool × Bool × Int × Bool × Int × (List (Int × Bool)))) × (List (List Int × Int × List Bool × Bool × Int × Bool × Int × (List (Int × Bool))))) => f_laws_eqHomeS p.1 p.2⟩
noncomputable def f_laws_eqHomeS.l0.c : LoopCon := ⟨1000, 6, [0, 1, 4, 5], ⟨[(0, .bor none R4 []), (1, .bor none R4 []), (4, .bool false), (5, .int .i64 0)], [], 1000⟩, [(.sl R4), (.sl R4), .bool, (.int .i64)], [⟨.ret, [4], ⟨[(4, .bool false)], [], 1000⟩, [.bool]⟩, ⟨.exit 0, [4], ⟨[(4, .bool false)], [], 1000⟩, [.bool]⟩], fun (p : (List (List Int × Int × List Bool × Bool × Int × Bool × Int × (List (Int × Bool)))) × (List (List Int × Int × List Bool × Bool × Int × Bool × Int × (List (Int × Bool)))) × Bool × Int) => f_laws_eqHomeS.l0 N p.1 p.2.1 p.2.2.1 p.2.2.2⟩
noncomputable abbrev K88 : Cons := [(165, C165)]
noncomputable abbrev L88 : List (Nat × Loops) := [(88, [(4, f_laws_eqHomeS.l0.c)])]
abbrev Q88 : List (Nat × List (Int × Nat) × Nat) := []
noncomputable abbrev X88 : Nat → Ctx := ctxOf tb K88 L88 Q88
theorem f_laws_eqHomeS.l0.ok : ∀ n p, (fun (p : (List (List Int × Int × List Bool × Bool × Int × Bool × Int × (List (Int × Bool)))) × (List (List Int × Int × List Bool × Bool × Int × Bool × Int × (List (Int × Bool)))) × Bool × Int) => f_laws_eqHomeS.l0 n p.1 p.2.1 p.2.2.1 p.2.2.2) p = iterD (roundOf fs X88 6 88 4 false f_laws_eqHomeS.l0.c) n p :=
  iter_of (l := fun n => fun (p : (List (List Int × Int × List Bool × Bool × Int × Bool × Int × (List (Int × Bool)))) × (List (List Int × Int × List Bool × Bool × Int × Bool × Int × (List (Int × Bool)))) × Bool × Int) => f_laws_eqHomeS.l0 n p.1 p.2.1 p.2.2.1 p.2.2.2) (fun _ => rfl) (fun n p => by kernel_rfl)
theorem E88 : ∀ x, funRun fs X88 6 88 C88 x = C88.fn x := fun x => by kernel_rfl
theorem B88 : ConB Tryz.prog 88 C88 := ConB.make FS MIX TY (cons := K88) (L := L88) (ptrs := Q88) ⟨S165, trivial⟩ trivial ⟨⟨⟨N, fun p => f_laws_eqHomeS.l0.ok N p⟩, trivial⟩, trivial⟩ rfl rfl E88
theorem S88 : ConS Tryz.prog 88 C88 := B88.call rfl
/-! laws.eqMsg: function 55 -/
noncomputable def f_laws_eqMsg (x0 : Int) (x1 : Int) (x2 : Bool) (x3 : List Int) (x4 : Int) (x5 : Int) (x6 : Bool) (x7 : List Int) : Option (Bool) :=
  bif (!(decide (x0 = x4))) then
    some false
  else
    bif (!(decide (x1 = x5))) then
      some false
    else
      bif (!(x2 == x6)) then
        some false
      else
        (f_laws_eqIntS x3 x7).bind fun y614 =>
        bif (!y614) then
          some false
        else
          some true
noncomputable def C55 : Con := ⟨[(.B, true, [(.int .i64), (.int .i64), .bool, (.sl R0)]), (.B, true, [(.int .i64), (.int .i64), .bool, (.sl R0)])], [(false, [.bool])], [(.int .i64), (.int .i64), .bool, (.sl R0), (.int .i64), (.int .i64), .bool, (.sl R0)], [.bool], fun (p : Int × Int × Bool × List Int × Int × Int × Bool × List Int) => f_laws_eqMsg p.1 p.2.1 p.2.2.1 p.2.2.2.1 p.2.2.2.2.1 p.2.2.2.2.2.1 p.2.2.2.2.2.2.1 p.2.2.2.2.2.2.2⟩
noncomputable abbrev K55 : Cons := [(39, C39)]
noncomputable abbrev L55 : List (Nat × Loops) := []
abbrev Q55 : List (Nat × List (Int × Nat) × Nat) := []
noncomputable abbrev X55 : Nat → Ctx := ctxOf tb K55 L55 Q55
theorem E55 : ∀ x, funRun fs X55 6 55 C55 x = C55.fn x := fun x => by kernel_rfl
theorem B55 : ConB Tryz.prog 55 C55 := ConB.make FS MIX TY (cons := K55) (L := L55) (ptrs := Q55) ⟨S39, trivial⟩ trivial trivial rfl rfl E55
theorem S55 : ConS Tryz.prog 55 C55 := B55.call rfl
/-! laws.eqMsgS: function 27 -/
noncomputable def f_laws_eqMsgS.l0 : Nat → (List (Int × Int × Bool × List Int)) → (List (Int × Int × Bool × List Int)) → Bool → Int → Option ((Bool) ⊕ (Bool))
  | 0, _, _, _, _ => none
  | n + 1, p615, p616, p617, p618 =>
    bif (decide (p618 < (p615.length : Int))) then
      bif ((decide ((0 : Int) ≤ p618)) && (decide (p618 < (p615.length : Int)))) then
      bif ((decide ((0 : Int) ≤ p618)) && (decide (p618 < (p616.length : Int)))) then
      (f_laws_eqMsg ((p615.getD p618.toNat (0, 0, false, [])).1) ((p615.getD p618.toNat (0, 0, false, [])).2.1) ((p615.getD p618.toNat (0, 0, false, [])).2.2.1) ((p615.getD p618.toNat (0, 0, false, [])).2.2.2) ((p616.getD p618.toNat (0, 0, false, [])).1) ((p616.getD p618.toNat (0, 0, false, [])).2.1) ((p616.getD p618.toNat (0, 0, false, [])).2.2.1) ((p616.getD p618.toNat (0, 0, false, [])).2.2.2)).bind fun y619 =>
      bif (!y619) then
        some (.inl false)
      else
        f_laws_eqMsgS.l0 n p615 p616 p617 (IntKind.wrap .i64 (p618 + (1 : Int)))
      else none
      else none
    else
      some (.inr p617)
noncomputable def f_laws_eqMsgS (x0 : List (Int × Int × Bool × List Int)) (x1 : List (Int × Int × Bool × List Int)) : Option (Bool) :=
  bif (!(decide ((x0.length : Int) = (x1.length : Int)))) then
    some false
  else
    (f_laws_eqMsgS.l0 N x0 x1 false 0).bind fun r620 =>
    cs r620 (fun a621 =>
      some a621) (fun b622 =>
      some true)
noncomputable def C27 : Con := ⟨[(.B, false, [(.sl R5)]), (.B, false, [(.sl R5)])], [(false, [.bool])], [(.sl R5), (.sl R5)], [.bool], fun (p : (List (Int × Int × Bool × List Int)) × (List (Int × Int × Bool × List Int))) => f_laws_eqMsgS p.1 p.2⟩
noncomputable def f_laws_eqMsgS.l0.c : LoopCon := ⟨1000, 6, [0, 1, 4, 5], ⟨[(0, .bor none R5 []), (1, .bor none R5 []), (4, .bool false), (5, .int .i64 0)], [], 1000⟩, [(.sl R5), (.sl R5), .bool, (.int .i64)], [⟨.ret, [4], ⟨[(4, .bool false)], [], 1000⟩, [.bool]⟩, ⟨.exit 0, [4], ⟨[(4, .bool false)], [], 1000⟩, [.bool]⟩], fun (p : (List (Int × Int × Bool × List Int)) × (List (Int × Int × Bool × List Int)) × Bool × Int) => f_laws_eqMsgS.l0 N p.1 p.2.1 p.2.2.1 p.2.2.2⟩
noncomputable abbrev K27 : Cons := [(55, C55)]
noncomputable abbrev L27 : List (Nat × Loops) := [(27, [(4, f_laws_eqMsgS.l0.c)])]
abbrev Q27 : List (Nat × List (Int × Nat) × Nat) := []
noncomputable abbrev X27 : Nat → Ctx := ctxOf tb K27 L27 Q27
theorem f_laws_eqMsgS.l0.ok : ∀ n p, (fun (p : (List (Int × Int × Bool × List Int)) × (List (Int × Int × Bool × List Int)) × Bool × Int) => f_laws_eqMsgS.l0 n p.1 p.2.1 p.2.2.1 p.2.2.2) p = iterD (roundOf fs X27 6 27 4 false f_laws_eqMsgS.l0.c) n p :=
  iter_of (l := fun n => fun (p : (List (Int × Int × Bool × List Int)) × (List (Int × Int × Bool × List Int)) × Bool × Int) => f_laws_eqMsgS.l0 n p.1 p.2.1 p.2.2.1 p.2.2.2) (fun _ => rfl) (fun n p => by kernel_rfl)
theorem E27 : ∀ x, funRun fs X27 6 27 C27 x = C27.fn x := fun x => by kernel_rfl
theorem B27 : ConB Tryz.prog 27 C27 := ConB.make FS MIX TY (cons := K27) (L := L27) (ptrs := Q27) ⟨S55, trivial⟩ trivial ⟨⟨⟨N, fun p => f_laws_eqMsgS.l0.ok N p⟩, trivial⟩, trivial⟩ rfl rfl E27
theorem S27 : ConS Tryz.prog 27 C27 := B27.call rfl
/-! laws.eqSender: function 166 -/
noncomputable def f_laws_eqSender (x0 : Int) (x1 : List (Int × Int × Bool × List Int)) (x2 : Int) (x3 : List (Int × Int × Bool × List Int)) : Option (Bool) :=
  bif (!(decide (x0 = x2))) then
    some false
  else
    (f_laws_eqMsgS x1 x3).bind fun y623 =>
    bif (!y623) then
      some false
    else
      some true
noncomputable def C166 : Con := ⟨[(.B, true, [(.int .i64), (.sl R5)]), (.B, true, [(.int .i64), (.sl R5)])], [(false, [.bool])], [(.int .i64), (.sl R5), (.int .i64), (.sl R5)], [.bool], fun (p : Int × (List (Int × Int × Bool × List Int)) × Int × (List (Int × Int × Bool × List Int))) => f_laws_eqSender p.1 p.2.1 p.2.2.1 p.2.2.2⟩
noncomputable abbrev K166 : Cons := [(27, C27)]
noncomputable abbrev L166 : List (Nat × Loops) := []
abbrev Q166 : List (Nat × List (Int × Nat) × Nat) := []
noncomputable abbrev X166 : Nat → Ctx := ctxOf tb K166 L166 Q166
theorem E166 : ∀ x, funRun fs X166 6 166 C166 x = C166.fn x := fun x => by kernel_rfl
theorem B166 : ConB Tryz.prog 166 C166 := ConB.make FS MIX TY (cons := K166) (L := L166) (ptrs := Q166) ⟨S27, trivial⟩ trivial trivial rfl rfl E166
theorem S166 : ConS Tryz.prog 166 C166 := B166.call rfl
/-! laws.eqSenderS: function 89 -/
noncomputable def f_laws_eqSenderS.l0 : Nat → (List (Int × (List (Int × Int × Bool × List Int)))) → (List (Int × (List (Int × Int × Bool × List Int)))) → Bool → Int → Option ((Bool) ⊕ (Bool))
  | 0, _, _, _, _ => none
  | n + 1, p624, p625, p626, p627 =>
    bif (decide (p627 < (p624.length : Int))) then
      bif ((decide ((0 : Int) ≤ p627)) && (decide (p627 < (p624.length : Int)))) then
      bif ((decide ((0 : Int) ≤ p627)) && (decide (p627 < (p625.length : Int)))) then
      (f_laws_eqSender ((p624.getD p627.toNat (0, [])).1) ((p624.getD p627.toNat (0, [])).2) ((p625.getD p627.toNat (0, [])).1) ((p625.getD p627.toNat (0, [])).2)).bind fun y628 =>
      bif (!y628) then
        some (.inl false)
      else
        f_laws_eqSenderS.l0 n p624 p625 p626 (IntKind.wrap .i64 (p627 + (1 : Int)))
      else none
      else none
    else
      some (.inr p626)
noncomputable def f_laws_eqSenderS (x0 : List (Int × (List (Int × Int × Bool × List Int)))) (x1 : List (Int × (List (Int × Int × Bool × List Int)))) : Option (Bool) :=
  bif (!(decide ((x0.length : Int) = (x1.length : Int)))) then
    some false
  else
    (f_laws_eqSenderS.l0 N x0 x1 false 0).bind fun r629 =>
    cs r629 (fun a630 =>
      some a630) (fun b631 =>
      some true)
noncomputable def C89 : Con := ⟨[(.B, false, [(.sl R6)]), (.B, false, [(.sl R6)])], [(false, [.bool])], [(.sl R6), (.sl R6)], [.bool], fun (p : (List (Int × (List (Int × Int × Bool × List Int)))) × (List (Int × (List (Int × Int × Bool × List Int))))) => f_laws_eqSenderS p.1 p.2⟩
noncomputable def f_laws_eqSenderS.l0.c : LoopCon := ⟨1000, 6, [0, 1, 4, 5], ⟨[(0, .bor none R6 []), (1, .bor none R6 []), (4, .bool false), (5, .int .i64 0)], [], 1000⟩, [(.sl R6), (.sl R6), .bool, (.int .i64)], [⟨.ret, [4], ⟨[(4, .bool false)], [], 1000⟩, [.bool]⟩, ⟨.exit 0, [4], ⟨[(4, .bool false)], [], 1000⟩, [.bool]⟩], fun (p : (List (Int × (List (Int × Int × Bool × List Int)))) × (List (Int × (List (Int × Int × Bool × List Int)))) × Bool × Int) => f_laws_eqSenderS.l0 N p.1 p.2.1 p.2.2.1 p.2.2.2⟩
noncomputable abbrev K89 : Cons := [(166, C166)]
noncomputable abbrev L89 : List (Nat × Loops) := [(89, [(4, f_laws_eqSenderS.l0.c)])]
abbrev Q89 : List (Nat × List (Int × Nat) × Nat) := []
noncomputable abbrev X89 : Nat → Ctx := ctxOf tb K89 L89 Q89
theorem f_laws_eqSenderS.l0.ok : ∀ n p, (fun (p : (List (Int × (List (Int × Int × Bool × List Int)))) × (List (Int × (List (Int × Int × Bool × List Int)))) × Bool × Int) => f_laws_eqSenderS.l0 n p.1 p.2.1 p.2.2.1 p.2.2.2) p = iterD (roundOf fs X89 6 89 4 false f_laws_eqSenderS.l0.c) n p :=
  iter_of (l := fun n => fun (p : (List (Int × (List (Int × Int × Bool × List Int)))) × (List (Int × (List (Int × Int × Bool × List Int)))) × Bool × Int) => f_laws_eqSenderS.l0 n p.1 p.2.1 p.2.2.1 p.2.2.2) (fun _ => rfl) (fun n p => by kernel_rfl)
theorem E89 : ∀ x, funRun fs X89 6 89 C89 x = C89.fn x := fun x => by kernel_rfl
theorem B89 : ConB Tryz.prog 89 C89 := ConB.make FS MIX TY (cons := K89) (L := L89) (ptrs := Q89) ⟨S166, trivial⟩ trivial ⟨⟨⟨N, fun p => f_laws_eqSenderS.l0.ok N p⟩, trivial⟩, trivial⟩ rfl rfl E89
theorem S89 : ConS Tryz.prog 89 C89 := B89.call rfl
/-! laws.eqReceiver: function 167 -/
noncomputable def f_laws_eqReceiver (x0 : Int) (x1 : Int) : Option (Bool) :=
  bif (!(decide (x0 = x1))) then
    some false
  else
    some true
noncomputable def C167 : Con := ⟨[(.B, true, [(.int .i64)]), (.B, true, [(.int .i64)])], [(false, [.bool])], [(.int .i64), (.int .i64)], [.bool], fun (p : Int × Int) => f_laws_eqReceiver p.1 p.2⟩
noncomputable abbrev K167 : Cons := []
noncomputable abbrev L167 : List (Nat × Loops) := []
abbrev Q167 : List (Nat × List (Int × Nat) × Nat) := []
noncomputable abbrev X167 : Nat → Ctx := ctxOf tb K167 L167 Q167
theorem E167 : ∀ x, funRun fs X167 6 167 C167 x = C167.fn x := fun x => by kernel_rfl
theorem B167 : ConB Tryz.prog 167 C167 := ConB.make FS MIX TY (cons := K167) (L := L167) (ptrs := Q167) trivial trivial trivial rfl rfl E167
theorem S167 : ConS Tryz.prog 167 C167 := B167.call rfl
/-! laws.eqReceiverS: function 90 -/
noncomputable def f_laws_eqReceiverS.l0 : Nat → (List Int) → (List Int) → Bool → Int → Option ((Bool) ⊕ (Bool))
  | 0, _, _, _, _ => none
  | n + 1, p632, p633, p634, p635 =>
    bif (decide (p635 < (p632.length : Int))) then
      bif ((decide ((0 : Int) ≤ p635)) && (decide (p635 < (p632.length : Int)))) then
      bif ((decide ((0 : Int) ≤ p635)) && (decide (p635 < (p633.length : Int)))) then
      (f_laws_eqReceiver (p632.getD p635.toNat 0) (p633.getD p635.toNat 0)).bind fun y636 =>
      bif (!y636) then
        some (.inl false)
      else
        f_laws_eqReceiverS.l0 n p632 p633 p634 (IntKind.wrap .i64 (p635 + (1 : Int)))
      else none
      else none
    else
      some (.inr p634)
noncomputable def f_laws_eqReceiverS (x0 : List Int) (x1 : List Int) : Option (Bool) :=
  bif (!(decide ((x0.length : Int) = (x1.length : Int)))) then
    some false
  else
    (f_laws_eqReceiverS.l0 N x0 x1 false 0).bind fun r637 =>
    cs r637 (fun a638 =>
      some a638) (fun b639 =>
      some true)
noncomputable def C90 : Con := ⟨[(.B, false, [(.sl R0)]), (.B, false, [(.sl R0)])], [(false, [.bool])], [(.sl R0), (.sl R0)], [.bool], fun (p : List Int × List Int) => f_laws_eqReceiverS p.1 p.2⟩
noncomputable def f_laws_eqReceiverS.l0.c : LoopCon := ⟨1000, 6, [0, 1, 4, 5], ⟨[(0, .bor none R0 []), (1, .bor none R0 []), (4, .bool false), (5, .int .i64 0)], [], 1000⟩, [(.sl R0), (.sl R0), .bool, (.int .i64)], [⟨.ret, [4], ⟨[(4, .bool false)], [], 1000⟩, [.bool]⟩, ⟨.exit 0, [4], ⟨[(4, .bool false)], [], 1000⟩, [.bool]⟩], fun (p : List Int × List Int × Bool × Int) => f_laws_eqReceiverS.l0 N p.1 p.2.1 p.2.2.1 p.2.2.2⟩
noncomputable abbrev K90 : Cons := [(167, C167)]
noncomputable abbrev L90 : List (Nat × Loops) := [(90, [(4, f_laws_eqReceiverS.l0.c)])]
abbrev Q90 : List (Nat × List (Int × Nat) × Nat) := []
noncomputable abbrev X90 : Nat → Ctx := ctxOf tb K90 L90 Q90
theorem f_laws_eqReceiverS.l0.ok : ∀ n p, (fun (p : List Int × List Int × Bool × Int) => f_laws_eqReceiverS.l0 n p.1 p.2.1 p.2.2.1 p.2.2.2) p = iterD (roundOf fs X90 6 90 4 false f_laws_eqReceiverS.l0.c) n p :=
  iter_of (l := fun n => fun (p : List Int × List Int × Bool × Int) => f_laws_eqReceiverS.l0 n p.1 p.2.1 p.2.2.1 p.2.2.2) (fun _ => rfl) (fun n p => by kernel_rfl)
theorem E90 : ∀ x, funRun fs X90 6 90 C90 x = C90.fn x := fun x => by kernel_rfl
theorem B90 : ConB Tryz.prog 90 C90 := ConB.make FS MIX TY (cons := K90) (L := L90) (ptrs := Q90) ⟨S167, trivial⟩ trivial ⟨⟨⟨N, fun p => f_laws_eqReceiverS.l0.ok N p⟩, trivial⟩, trivial⟩ rfl rfl E90
theorem S90 : ConS Tryz.prog 90 C90 := B90.call rfl
/-! laws.eqNode: function 22 -/
noncomputable def f_laws_eqNode (x0 : Int) (x1 : List (Int × List Int × Bool)) (x2 : List (List Int × Int × List Bool × Bool × Int × Bool × Int × (List (Int × Bool)))) (x3 : List (Int × (List (Int × Int × Bool × List Int)))) (x4 : List Int) (x5 : Int) (x6 : List (Int × List Int × Bool)) (x7 : List (List Int × Int × List Bool × Bool × Int × Bool × Int × (List (Int × Bool)))) (x8 : List (Int × (List (Int × Int × Bool × List Int)))) (x9 : List Int) : Option (Bool) :=
  bif (!(decide (x0 = x5))) then
    some false
  else
    (f_laws_eqFrameS x1 x6).bind fun y640 =>
    bif (!y640) then
      some false
    else
      (f_laws_eqHomeS x2 x7).bind fun y641 =>
      bif (!y641) then
        some false
      else
        (f_laws_eqSenderS x3 x8).bind fun y642 =>
        bif (!y642) then
          some false
        else
          (f_laws_eqReceiverS x4 x9).bind fun y643 =>
          bif (!y643) then
            some false
          else
            some true
noncomputable def C22 : Con := ⟨[(.B, true, [(.int .i64), (.sl R1), (.sl R4), (.sl R6), (.sl R0)]), (.B, true, [(.int .i64), (.sl R1), (.sl R4), (.sl R6), (.sl R0)])], [(false, [.bool])], [(.int .i64), (.sl R1), (.sl R4), (.sl R6), (.sl R0), (.int .i64), (.sl R1), (.sl R4), (.sl R6), (.sl R0)], [.bool], fun (p : Int × (List (Int × List Int × Bool)) × (List (List Int × Int × List Bool × Bool × Int × Bool × Int × (List (Int × Bool)))) × (List (Int × (List (Int × Int × Bool × List Int)))) × List Int × Int × (List (Int × List Int × Bool)) × (List (List Int × Int × List Bool × Bool × Int × Bool × Int × (List (Int × Bool)))) × (List (Int × (List (Int × Int × Bool × List Int)))) × List Int) => f_laws_eqNode p.1 p.2.1 p.2.2.1 p.2.2.2.1 p.2.2.2.2.1 p.2.2.2.2.2.1 p.2.2.2.2.2.2.1 p.2.2.2.2.2.2.2.1 p.2.2.2.2.2.2.2.2.1 p.2.2.2.2.2.2.2.2.2⟩
noncomputable abbrev K22 : Cons := [(87, C87), (88, C88), (89, C89), (90, C90)]
noncomputable abbrev L22 : List (Nat × Loops) := []
abbrev Q22 : List (Nat × List (Int × Nat) × Nat) := []
noncomputable abbrev X22 : Nat → Ctx := ctxOf tb K22 L22 Q22
theorem E22 : ∀ x, funRun fs X22 6 22 C22 x = C22.fn x := fun x => by kernel_rfl
theorem B22 : ConB Tryz.prog 22 C22 := ConB.make FS MIX TY (cons := K22) (L := L22) (ptrs := Q22) ⟨S87, S88, S89, S90, trivial⟩ trivial trivial rfl rfl E22
theorem S22 : ConS Tryz.prog 22 C22 := B22.call rfl
/-! laws.eqNodeS: function 67 -/
noncomputable def f_laws_eqNodeS.l0 : Nat → (List (Int × (List (Int × List Int × Bool)) × (List (List Int × Int × List Bool × Bool × Int × Bool × Int × (List (Int × Bool)))) × (List (Int × (List (Int × Int × Bool × List Int)))) × List Int)) → (List (Int × (List (Int × List Int × Bool)) × (List (List Int × Int × List Bool × Bool × Int × Bool × Int × (List (Int × Bool)))) × (List (Int × (List (Int × Int × Bool × List Int)))) × List Int)) → Bool → Int → Option ((Bool) ⊕ (Bool))
  | 0, _, _, _, _ => none
  | n + 1, p644, p645, p646, p647 =>
    bif (decide (p647 < (p644.length : Int))) then
      bif ((decide ((0 : Int) ≤ p647)) && (decide (p647 < (p644.length : Int)))) then
      bif ((decide ((0 : Int) ≤ p647)) && (decide (p647 < (p645.length : Int)))) then
      (f_laws_eqNode ((p644.getD p647.toNat (0, [], [], [], [])).1) ((p644.getD p647.toNat (0, [], [], [], [])).2.1) ((p644.getD p647.toNat (0, [], [], [], [])).2.2.1) ((p644.getD p647.toNat (0, [], [], [], [])).2.2.2.1) ((p644.getD p647.toNat (0, [], [], [], [])).2.2.2.2) ((p645.getD p647.toNat (0, [], [], [], [])).1) ((p645.getD p647.toNat (0, [], [], [], [])).2.1) ((p645.getD p647.toNat (0, [], [], [], [])).2.2.1) ((p645.getD p647.toNat (0, [], [], [], [])).2.2.2.1) ((p645.getD p647.toNat (0, [], [], [], [])).2.2.2.2)).bind fun y648 =>
      bif (!y648) then
        some (.inl false)
      else
        f_laws_eqNodeS.l0 n p644 p645 p646 (IntKind.wrap .i64 (p647 + (1 : Int)))
      else none
      else none
    else
      some (.inr p646)
noncomputable def f_laws_eqNodeS (x0 : List (Int × (List (Int × List Int × Bool)) × (List (List Int × Int × List Bool × Bool × Int × Bool × Int × (List (Int × Bool)))) × (List (Int × (List (Int × Int × Bool × List Int)))) × List Int)) (x1 : List (Int × (List (Int × List Int × Bool)) × (List (List Int × Int × List Bool × Bool × Int × Bool × Int × (List (Int × Bool)))) × (List (Int × (List (Int × Int × Bool × List Int)))) × List Int)) : Option (Bool) :=
  bif (!(decide ((x0.length : Int) = (x1.length : Int)))) then
    some false
  else
    (f_laws_eqNodeS.l0 N x0 x1 false 0).bind fun r649 =>
    cs r649 (fun a650 =>
      some a650) (fun b651 =>
      some true)
noncomputable def C67 : Con := ⟨[(.B, false, [(.sl R7)]), (.B, false, [(.sl R7)])], [(false, [.bool])], [(.sl R7), (.sl R7)], [.bool], fun (p : (List (Int × (List (Int × List Int × Bool)) × (List (List Int × Int × List Bool × Bool × Int × Bool × Int × (List (Int × Bool)))) × (List (Int × (List (Int × Int × Bool × List Int)))) × List Int)) × (List (Int × (List (Int × List Int × Bool)) × (List (List Int × Int × List Bool × Bool × Int × Bool × Int × (List (Int × Bool)))) × (List (Int × (List (Int × Int × Bool × List Int)))) × List Int))) => f_laws_eqNodeS p.1 p.2⟩
noncomputable def f_laws_eqNodeS.l0.c : LoopCon := ⟨1000, 6, [0, 1, 4, 5], ⟨[(0, .bor none R7 []), (1, .bor none R7 []), (4, .bool false), (5, .int .i64 0)], [], 1000⟩, [(.sl R7), (.sl R7), .bool, (.int .i64)], [⟨.ret, [4], ⟨[(4, .bool false)], [], 1000⟩, [.bool]⟩, ⟨.exit 0, [4], ⟨[(4, .bool false)], [], 1000⟩, [.bool]⟩], fun (p : (List (Int × (List (Int × List Int × Bool)) × (List (List Int × Int × List Bool × Bool × Int × Bool × Int × (List (Int × Bool)))) × (List (Int × (List (Int × Int × Bool × List Int)))) × List Int)) × (List (Int × (List (Int × List Int × Bool)) × (List (List Int × Int × List Bool × Bool × Int × Bool × Int × (List (Int × Bool)))) × (List (Int × (List (Int × Int × Bool × List Int)))) × List Int)) × Bool × Int) => f_laws_eqNodeS.l0 N p.1 p.2.1 p.2.2.1 p.2.2.2⟩
noncomputable abbrev K67 : Cons := [(22, C22)]
noncomputable abbrev L67 : List (Nat × Loops) := [(67, [(4, f_laws_eqNodeS.l0.c)])]
abbrev Q67 : List (Nat × List (Int × Nat) × Nat) := []
noncomputable abbrev X67 : Nat → Ctx := ctxOf tb K67 L67 Q67
theorem f_laws_eqNodeS.l0.ok : ∀ n p, (fun (p : (List (Int × (List (Int × List Int × Bool)) × (List (List Int × Int × List Bool × Bool × Int × Bool × Int × (List (Int × Bool)))) × (List (Int × (List (Int × Int × Bool × List Int)))) × List Int)) × (List (Int × (List (Int × List Int × Bool)) × (List (List Int × Int × List Bool × Bool × Int × Bool × Int × (List (Int × Bool)))) × (List (Int × (List (Int × Int × Bool × List Int)))) × List Int)) × Bool × Int) => f_laws_eqNodeS.l0 n p.1 p.2.1 p.2.2.1 p.2.2.2) p = iterD (roundOf fs X67 6 67 4 false f_laws_eqNodeS.l0.c) n p :=
  iter_of (l := fun n => fun (p : (List (Int × (List (Int × List Int × Bool)) × (List (List Int × Int × List Bool × Bool × Int × Bool × Int × (List (Int × Bool)))) × (List (Int × (List (Int × Int × Bool × List Int)))) × List Int)) × (List (Int × (List (Int × List Int × Bool)) × (List (List Int × Int × List Bool × Bool × Int × Bool × Int × (List (Int × Bool)))) × (List (Int × (List (Int × Int × Bool × List Int)))) × List Int)) × Bool × Int) => f_laws_eqNodeS.l0 n p.1 p.2.1 p.2.2.1 p.2.2.2) (fun _ => rfl) (fun n p => by kernel_rfl)
theorem E67 : ∀ x, funRun fs X67 6 67 C67 x = C67.fn x := fun x => by kernel_rfl
theorem B67 : ConB Tryz.prog 67 C67 := ConB.make FS MIX TY (cons := K67) (L := L67) (ptrs := Q67) ⟨S22, trivial⟩ trivial ⟨⟨⟨N, fun p => f_laws_eqNodeS.l0.ok N p⟩, trivial⟩, trivial⟩ rfl rfl E67
theorem S67 : ConS Tryz.prog 67 C67 := B67.call rfl
/-! laws.eqPacket: function 144 -/
noncomputable def f_laws_eqPacket (x0 : Int) (x1 : Int) (x2 : Bool) (x3 : Int) (x4 : Int) (x5 : Int) (x6 : Bool) (x7 : List Int) (x8 : Int) (x9 : Int) (x10 : Bool) (x11 : Int) (x12 : Int) (x13 : Int) (x14 : Bool) (x15 : List Int) : Option (Bool) :=
  bif (!(decide (x0 = x8))) then
    some false
  else
    bif (!(decide (x1 = x9))) then
      some false
    else
      bif (!(x2 == x10)) then
        some false
      else
        bif (!(decide (x3 = x11))) then
          some false
        else
          (f_laws_eqMsg x4 x5 x6 x7 x12 x13 x14 x15).bind fun y652 =>
          bif (!y652) then
            some false
          else
            some true
noncomputable def C144 : Con := ⟨[(.B, true, [(.int .i64), (.int .i64), .bool, (.int .i64), (.int .i64), (.int .i64), .bool, (.sl R0)]), (.B, true, [(.int .i64), (.int .i64), .bool, (.int .i64), (.int .i64), (.int .i64), .bool, (.sl R0)])], [(false, [.bool])], [(.int .i64), (.int .i64), .bool, (.int .i64), (.int .i64), (.int .i64), .bool, (.sl R0), (.int .i64), (.int .i64), .bool, (.int .i64), (.int .i64), (.int .i64), .bool, (.sl R0)], [.bool], fun (p : Int × Int × Bool × Int × Int × Int × Bool × List Int × Int × Int × Bool × Int × Int × Int × Bool × List Int) => f_laws_eqPacket p.1 p.2.1 p.2.2.1 p.2.2.2.1 p.2.2.2.2.1 p.2.2.2.2.2.1 p.2.2.2.2.2.2.1 p.2.2.2.2.2.2.2.1 p.2.2.2.2.2.2.2.2.1 p.2.2.2.2.2.2.2.2.2.1 p.2.2.2.2.2.2.2.2.2.2.1 p.2.2.2.2.2.2.2.2.2.2.2.1 p.2.2.2.2.2.2.2.2.2.2.2.2.1 p.2.2.2.2.2.2.2.2.2.2.2.2.2.1 p.2.2.2.2.2.2.2.2.2.2.2.2.2.2.1 p.2.2.2.2.2.2.2.2.2.2.2.2.2.2.2⟩
noncomputable abbrev K144 : Cons := [(55, C55)]
noncomputable abbrev L144 : List (Nat × Loops) := []
abbrev Q144 : List (Nat × List (Int × Nat) × Nat) := []
noncomputable abbrev X144 : Nat → Ctx := ctxOf tb K144 L144 Q144
theorem E144 : ∀ x, funRun fs X144 6 144 C144 x = C144.fn x := fun x => by kernel_rfl
theorem B144 : ConB Tryz.prog 144 C144 := ConB.make FS MIX TY (cons := K144) (L := L144) (ptrs := Q144) ⟨S55, trivial⟩ trivial trivial rfl rfl E144
theorem S144 : ConS Tryz.prog 144 C144 := B144.call rfl
/-! laws.eqPacketS: function 68 -/
noncomputable def f_laws_eqPacketS.l0 : Nat → (List (Int × Int × Bool × Int × Int × Int × Bool × List Int)) → (List (Int × Int × Bool × Int × Int × Int × Bool × List Int)) → Bool → Int → Option ((Bool) ⊕ (Bool))
  | 0, _, _, _, _ => none
  | n + 1, p653, p654, p655, p656 =>
    bif (decide (p656 < (p653.length : Int))) then
      bif ((decide ((0 : Int) ≤ p656)) && (decide (p656 < (p653.length : Int)))) then
      bif ((decide ((0 : Int) ≤ p656)) && (decide (p656 < (p654.length : Int)))) then
      (f_laws_eqPacket ((p653.getD p656.toNat (0, 0, false, 0, 0, 0, false, [])).1) ((p653.getD p656.toNat (0, 0, false, 0, 0, 0, false, [])).2.1) ((p653.getD p656.toNat (0, 0, false, 0, 0, 0, false, [])).2.2.1) ((p653.getD p656.toNat (0, 0, false, 0, 0, 0, false, [])).2.2.2.1) ((p653.getD p656.toNat (0, 0, false, 0, 0, 0, false, [])).2.2.2.2.1) ((p653.getD p656.toNat (0, 0, false, 0, 0, 0, false, [])).2.2.2.2.2.1) ((p653.getD p656.toNat (0, 0, false, 0, 0, 0, false, [])).2.2.2.2.2.2.1) ((p653.getD p656.toNat (0, 0, false, 0, 0, 0, false, [])).2.2.2.2.2.2.2) ((p654.getD p656.toNat (0, 0, false, 0, 0, 0, false, [])).1) ((p654.getD p656.toNat (0, 0, false, 0, 0, 0, false, [])).2.1) ((p654.getD p656.toNat (0, 0, false, 0, 0, 0, false, [])).2.2.1) ((p654.getD p656.toNat (0, 0, false, 0, 0, 0, false, [])).2.2.2.1) ((p654.getD p656.toNat (0, 0, false, 0, 0, 0, false, [])).2.2.2.2.1) ((p654.getD p656.toNat (0, 0, false, 0, 0, 0, false, [])).2.2.2.2.2.1) ((p654.getD p656.toNat (0, 0, false, 0, 0, 0, false, [])).2.2.2.2.2.2.1) ((p654.getD p656.toNat (0, 0, false, 0, 0, 0, false, [])).2.2.2.2.2.2.2)).bind fun y657 =>
      bif (!y657) then
        some (.inl false)
      else
        f_laws_eqPacketS.l0 n p653 p654 p655 (IntKind.wrap .i64 (p656 + (1 : Int)))
      else none
      else none
    else
      some (.inr p655)
noncomputable def f_laws_eqPacketS (x0 : List (Int × Int × Bool × Int × Int × Int × Bool × List Int)) (x1 : List (Int × Int × Bool × Int × Int × Int × Bool × List Int)) : Option (Bool) :=
  bif (!(decide ((x0.length : Int) = (x1.length : Int)))) then
    some false
  else
    (f_laws_eqPacketS.l0 N x0 x1 false 0).bind fun r658 =>
    cs r658 (fun a659 =>
      some a659) (fun b660 =>
      some true)
noncomputable def C68 : Con := ⟨[(.B, false, [(.sl R8)]), (.B, false, [(.sl R8)])], [(false, [.bool])], [(.sl R8), (.sl R8)], [.bool], fun (p : (List (Int × Int × Bool × Int × Int × Int × Bool × List Int)) × (List (Int × Int × Bool × Int × Int × Int × Bool × List Int))) => f_laws_eqPacketS p.1 p.2⟩
noncomputable def f_laws_eqPacketS.l0.c : LoopCon := ⟨1000, 6, [0, 1, 4, 5], ⟨[(0, .bor none R8 []), (1, .bor none R8 []), (4, .bool false), (5, .int .i64 0)], [], 1000⟩, [(.sl R8), (.sl R8), .bool, (.int .i64)], [⟨.ret, [4], ⟨[(4, .bool false)], [], 1000⟩, [.bool]⟩, ⟨.exit 0, [4], ⟨[(4, .bool false)], [], 1000⟩, [.bool]⟩], fun (p : (List (Int × Int × Bool × Int × Int × Int × Bool × List Int)) × (List (Int × Int × Bool × Int × Int × Int × Bool × List Int)) × Bool × Int) => f_laws_eqPacketS.l0 N p.1 p.2.1 p.2.2.1 p.2.2.2⟩
noncomputable abbrev K68 : Cons := [(144, C144)]
noncomputable abbrev L68 : List (Nat × Loops) := [(68, [(4, f_laws_eqPacketS.l0.c)])]
abbrev Q68 : List (Nat × List (Int × Nat) × Nat) := []
noncomputable abbrev X68 : Nat → Ctx := ctxOf tb K68 L68 Q68
theorem f_laws_eqPacketS.l0.ok : ∀ n p, (fun (p : (List (Int × Int × Bool × Int × Int × Int × Bool × List Int)) × (List (Int × Int × Bool × Int × Int × Int × Bool × List Int)) × Bool × Int) => f_laws_eqPacketS.l0 n p.1 p.2.1 p.2.2.1 p.2.2.2) p = iterD (roundOf fs X68 6 68 4 false f_laws_eqPacketS.l0.c) n p :=
  iter_of (l := fun n => fun (p : (List (Int × Int × Bool × Int × Int × Int × Bool × List Int)) × (List (Int × Int × Bool × Int × Int × Int × Bool × List Int)) × Bool × Int) => f_laws_eqPacketS.l0 n p.1 p.2.1 p.2.2.1 p.2.2.2) (fun _ => rfl) (fun n p => by kernel_rfl)
theorem E68 : ∀ x, funRun fs X68 6 68 C68 x = C68.fn x := fun x => by kernel_rfl
theorem B68 : ConB Tryz.prog 68 C68 := ConB.make FS MIX TY (cons := K68) (L := L68) (ptrs := Q68) ⟨S144, trivial⟩ trivial ⟨⟨⟨N, fun p => f_laws_eqPacketS.l0.ok N p⟩, trivial⟩, trivial⟩ rfl rfl E68
theorem S68 : ConS Tryz.prog 68 C68 := B68.call rfl
/-! laws.eqWorld: function 15 -/
noncomputable def f_laws_eqWorld (x0 : Int) (x1 : List (Int × (List (Int × List Int × Bool)) × (List (List Int × Int × List Bool × Bool × Int × Bool × Int × (List (Int × Bool)))) × (List (Int × (List (Int × Int × Bool × List Int)))) × List Int)) (x2 : List (Int × Int × Bool × Int × Int × Int × Bool × List Int)) (x3 : Int) (x4 : List (Int × (List (Int × List Int × Bool)) × (List (List Int × Int × List Bool × Bool × Int × Bool × Int × (List (Int × Bool)))) × (List (Int × (List (Int × Int × Bool × List Int)))) × List Int)) (x5 : List (Int × Int × Bool × Int × Int × Int × Bool × List Int)) : Option (Bool) :=
  bif (!(decide (x0 = x3))) then
    some false
  else
    (f_laws_eqNodeS x1 x4).bind fun y661 =>
    bif (!y661) then
      some false
    else
      (f_laws_eqPacketS x2 x5).bind fun y662 =>
      bif (!y662) then
        some false
      else
        some true
noncomputable def C15 : Con := ⟨[(.B, true, [(.int .i64), (.sl R7), (.sl R8)]), (.B, true, [(.int .i64), (.sl R7), (.sl R8)])], [(false, [.bool])], [(.int .i64), (.sl R7), (.sl R8), (.int .i64), (.sl R7), (.sl R8)], [.bool], fun (p : Int × (List (Int × (List (Int × List Int × Bool)) × (List (List Int × Int × List Bool × Bool × Int × Bool × Int × (List (Int × Bool)))) × (List (Int × (List (Int × Int × Bool × List Int)))) × List Int)) × (List (Int × Int × Bool × Int × Int × Int × Bool × List Int)) × Int × (List (Int × (List (Int × List Int × Bool)) × (List (List Int × Int × List Bool × Bool × Int × Bool × Int × (List (Int × Bool)))) × (List (Int × (List (Int × Int × Bool × List Int)))) × List Int)) × (List (Int × Int × Bool × Int × Int × Int × Bool × List Int))) => f_laws_eqWorld p.1 p.2.1 p.2.2.1 p.2.2.2.1 p.2.2.2.2.1 p.2.2.2.2.2⟩
noncomputable abbrev K15 : Cons := [(67, C67), (68, C68)]
noncomputable abbrev L15 : List (Nat × Loops) := []
abbrev Q15 : List (Nat × List (Int × Nat) × Nat) := []
noncomputable abbrev X15 : Nat → Ctx := ctxOf tb K15 L15 Q15
theorem E15 : ∀ x, funRun fs X15 6 15 C15 x = C15.fn x := fun x => by kernel_rfl
theorem B15 : ConB Tryz.prog 15 C15 := ConB.make FS MIX TY (cons := K15) (L := L15) (ptrs := Q15) ⟨S67, S68, trivial⟩ trivial trivial rfl rfl E15
theorem S15 : ConS Tryz.prog 15 C15 := B15.call rfl
/-! laws.markIntS: function 40 -/
noncomputable def f_laws_markIntS.l0 : Nat → Int → Int → Int → (List Int) → Option (Int × Int × List Int)
  | 0, _, _, _, _ => none
  | n + 1, p663, p664, p665, p666 =>
    bif (decide (p665 < (p666.length : Int))) then
      bif ((decide ((0 : Int) ≤ p665)) && (decide (p665 < (p666.length : Int)))) then
      (some ((p666.set p665.toNat p663) : List Int)).bind fun z667 =>
      f_laws_markIntS.l0 n (IntKind.wrap .i64 (p663 + (1 : Int))) p664 (IntKind.wrap .i64 (p665 + (1 : Int))) z667
      else none
    else
      some (p663, p664, p666)
noncomputable def f_laws_markIntS (x0 : List Int) (x1 : Int) : Option (Int × List Int) :=
  (f_laws_markIntS.l0 N x1 0 0 x0).bind fun r668 =>
  some (r668.1, r668.2.2)
noncomputable def C40 : Con := ⟨[(.I, false, [(.sl R0)]), (.B, false, [(.int .i64)])], [(false, [(.int .i64)])], [(.sl R0), (.int .i64)], [(.int .i64), (.sl R0)], fun (p : List Int × Int) => f_laws_markIntS p.1 p.2⟩
noncomputable def f_laws_markIntS.l0.c : LoopCon := ⟨1000, 6, [0, 1, 4, 5], ⟨[(0, .ref 0 [] none), (1, .int .i64 0), (4, .int .i64 0), (5, .int .i64 0)], [(0, .row R0 [])], 1000⟩, [(.int .i64), (.int .i64), (.int .i64), (.sl R0)], [⟨.exit 0, [1, 4], ⟨[(1, .int .i64 0), (4, .int .i64 0)], [(0, .row R0 [])], 1000⟩, [(.int .i64), (.int .i64), (.sl R0)]⟩], fun (p : Int × Int × Int × List Int) => f_laws_markIntS.l0 N p.1 p.2.1 p.2.2.1 p.2.2.2⟩
noncomputable abbrev K40 : Cons := []
noncomputable abbrev L40 : List (Nat × Loops) := [(40, [(2, f_laws_markIntS.l0.c)])]
abbrev Q40 : List (Nat × List (Int × Nat) × Nat) := []
noncomputable abbrev X40 : Nat → Ctx := ctxOf tb K40 L40 Q40
theorem f_laws_markIntS.l0.ok : ∀ n p, (fun (p : Int × Int × Int × List Int) => f_laws_markIntS.l0 n p.1 p.2.1 p.2.2.1 p.2.2.2) p = iterD (roundOf fs X40 6 40 2 false f_laws_markIntS.l0.c) n p :=
  iter_of (l := fun n => fun (p : Int × Int × Int × List Int) => f_laws_markIntS.l0 n p.1 p.2.1 p.2.2.1 p.2.2.2) (fun _ => rfl) (fun n p => by kernel_rfl)
theorem E40 : ∀ x, funG fs X40 6 40 C40 x = C40.fn x := fun x => by kernel_rfl
theorem B40 : ConG Tryz.prog 40 C40 := ConG.make FS MIX TY (cons := K40) (L := L40) (ptrs := Q40) trivial trivial ⟨⟨⟨N, fun p => f_laws_markIntS.l0.ok N p⟩, trivial⟩, trivial⟩ rfl (by kernel_rfl) E40
theorem S40 : ConS Tryz.prog 40 C40 := B40.call (by kernel_rfl)
/-! laws.markFrameS: function 91 -/
noncomputable def f_laws_markFrameS.l0 : Nat → Int → Int → Int → (List (Int × List Int × Bool)) → Option (Int × Int × (List (Int × List Int × Bool)))
  | 0, _, _, _, _ => none
  | n + 1, p669, p670, p671, p672 =>
    bif (decide (p671 < (p672.length : Int))) then
      bif ((decide ((0 : Int) ≤ p671)) && (decide (p671 < (p672.length : Int)))) then
      (some ((p672.set p671.toNat (p669, (p672.getD p671.toNat (0, [], false)).2.1, (p672.getD p671.toNat (0, [], false)).2.2)) : List (Int × List Int × Bool))).bind fun z673 =>
      bif ((decide ((0 : Int) ≤ p671)) && (decide (p671 < (z673.length : Int)))) then
      (f_laws_markIntS ((z673.getD p671.toNat (0, [], false)).2.1) (IntKind.wrap .i64 (p669 + (1 : Int)))).bind fun y674 =>
      (some ((z673.set p671.toNat ((z673.getD p671.toNat (0, [], false)).1, y674.2, (z673.getD p671.toNat (0, [], false)).2.2)) : List (Int × List Int × Bool))).bind fun z675 =>
      bif ((decide ((0 : Int) ≤ p671)) && (decide (p671 < (z675.length : Int)))) then
      (some ((z675.set p671.toNat ((z675.getD p671.toNat (0, [], false)).1, (z675.getD p671.toNat (0, [], false)).2.1, (decide ((Int.tmod y674.1 (3 : Int)) = (0 : Int))))) : List (Int × List Int × Bool))).bind fun z676 =>
      f_laws_markFrameS.l0 n (IntKind.wrap .i64 (y674.1 + (1 : Int))) p670 (IntKind.wrap .i64 (p671 + (1 : Int))) z676
      else none
      else none
      else none
    else
      some (p669, p670, p672)
noncomputable def f_laws_markFrameS (x0 : List (Int × List Int × Bool)) (x1 : Int) : Option (Int × (List (Int × List Int × Bool))) :=
  (f_laws_markFrameS.l0 N x1 0 0 x0).bind fun r677 =>
  some (r677.1, r677.2.2)
noncomputable def C91 : Con := ⟨[(.I, false, [(.sl R1)]), (.B, false, [(.int .i64)])], [(false, [(.int .i64)])], [(.sl R1), (.int .i64)], [(.int .i64), (.sl R1)], fun (p : (List (Int × List Int × Bool)) × Int) => f_laws_markFrameS p.1 p.2⟩
noncomputable def f_laws_markFrameS.l0.c : LoopCon := ⟨1000, 6, [0, 1, 4, 5], ⟨[(0, .ref 0 [] none), (1, .int .i64 0), (4, .int .i64 0), (5, .int .i64 0)], [(0, .row R1 [])], 1000⟩, [(.int .i64), (.int .i64), (.int .i64), (.sl R1)], [⟨.exit 0, [1, 4], ⟨[(1, .int .i64 0), (4, .int .i64 0)], [(0, .row R1 [])], 1000⟩, [(.int .i64), (.int .i64), (.sl R1)]⟩], fun (p : Int × Int × Int × (List (Int × List Int × Bool))) => f_laws_markFrameS.l0 N p.1 p.2.1 p.2.2.1 p.2.2.2⟩
noncomputable abbrev K91 : Cons := [(40, C40)]
noncomputable abbrev L91 : List (Nat × Loops) := [(91, [(2, f_laws_markFrameS.l0.c)])]
abbrev Q91 : List (Nat × List (Int × Nat) × Nat) := []
noncomputable abbrev X91 : Nat → Ctx := ctxOf tb K91 L91 Q91
theorem f_laws_markFrameS.l0.ok : ∀ n p, (fun (p : Int × Int × Int × (List (Int × List Int × Bool))) => f_laws_markFrameS.l0 n p.1 p.2.1 p.2.2.1 p.2.2.2) p = iterD (roundOf fs X91 6 91 2 false f_laws_markFrameS.l0.c) n p :=
  iter_of (l := fun n => fun (p : Int × Int × Int × (List (Int × List Int × Bool))) => f_laws_markFrameS.l0 n p.1 p.2.1 p.2.2.1 p.2.2.2) (fun _ => rfl) (fun n p => by kernel_rfl)
theorem E91 : ∀ x, funG fs X91 6 91 C91 x = C91.fn x := fun x => by kernel_rfl
theorem B91 : ConG Tryz.prog 91 C91 := ConG.make FS MIX TY (cons := K91) (L := L91) (ptrs := Q91) ⟨S40, trivial⟩ trivial ⟨⟨⟨N, fun p => f_laws_markFrameS.l0.ok N p⟩, trivial⟩, trivial⟩ rfl (by kernel_rfl) E91
theorem S91 : ConS Tryz.prog 91 C91 := B91.call (by kernel_rfl)
/-! laws.markBoolS: function 168 -/
noncomputable def f_laws_markBoolS.l0 : Nat → Int → Int → Int → (List Bool) → Option (Int × Int × List Bool)
  | 0, _, _, _, _ => none
  | n + 1, p678, p679, p680, p681 =>
    bif (decide (p680 < (p681.length : Int))) then
      bif ((decide ((0 : Int) ≤ p680)) && (decide (p680 < (p681.length : Int)))) then
      (some ((p681.set p680.toNat (decide ((Int.tmod p678 (3 : Int)) = (0 : Int)))) : List Bool)).bind fun z682 =>
      f_laws_markBoolS.l0 n (IntKind.wrap .i64 (p678 + (1 : Int))) p679 (IntKind.wrap .i64 (p680 + (1 : Int))) z682
      else none
    else
      some (p678, p679, p681)
noncomputable def f_laws_markBoolS (x0 : List Bool) (x1 : Int) : Option (Int × List Bool) :=
  (f_laws_markBoolS.l0 N x1 0 0 x0).bind fun r683 =>
  some (r683.1, r683.2.2)
noncomputable def C168 : Con := ⟨[(.I, false, [(.sl R2)]), (.B, false, [(.int .i64)])], [(false, [(.int .i64)])], [(.sl R2), (.int .i64)], [(.int .i64), (.sl R2)], fun (p : List Bool × Int) => f_laws_markBoolS p.1 p.2⟩
noncomputable def f_laws_markBoolS.l0.c : LoopCon := ⟨1000, 6, [0, 1, 4, 5], ⟨[(0, .ref 0 [] none), (1, .int .i64 0), (4, .int .i64 0), (5, .int .i64 0)], [(0, .row R2 [])], 1000⟩, [(.int .i64), (.int .i64), (.int .i64), (.sl R2)], [⟨.exit 0, [1, 4], ⟨[(1, .int .i64 0), (4, .int .i64 0)], [(0, .row R2 [])], 1000⟩, [(.int .i64), (.int .i64), (.sl R2)]⟩], fun (p : Int × Int × Int × List Bool) => f_laws_markBoolS.l0 N p.1 p.2.1 p.2.2.1 p.2.2.2⟩
noncomputable abbrev K168 : Cons := []
noncomputable abbrev L168 : List (Nat × Loops) := [(168, [(2, f_laws_markBoolS.l0.c)])]
abbrev Q168 : List (Nat × List (Int × Nat) × Nat) := []
noncomputable abbrev X168 : Nat → Ctx := ctxOf tb K168 L168 Q168
theorem f_laws_markBoolS.l0.ok : ∀ n p, (fun (p : Int × Int × Int × List Bool) => f_laws_markBoolS.l0 n p.1 p.2.1 p.2.2.1 p.2.2.2) p = iterD (roundOf fs X168 6 168 2 false f_laws_markBoolS.l0.c) n p :=
  iter_of (l := fun n => fun (p : Int × Int × Int × List Bool) => f_laws_markBoolS.l0 n p.1 p.2.1 p.2.2.1 p.2.2.2) (fun _ => rfl) (fun n p => by kernel_rfl)
theorem E168 : ∀ x, funG fs X168 6 168 C168 x = C168.fn x := fun x => by kernel_rfl
theorem B168 : ConG Tryz.prog 168 C168 := ConG.make FS MIX TY (cons := K168) (L := L168) (ptrs := Q168) trivial trivial ⟨⟨⟨N, fun p => f_laws_markBoolS.l0.ok N p⟩, trivial⟩, trivial⟩ rfl (by kernel_rfl) E168
theorem S168 : ConS Tryz.prog 168 C168 := B168.call (by kernel_rfl)
/-! laws.markWaitS: function 169 -/
noncomputable def f_laws_markWaitS.l0 : Nat → Int → Int → Int → (List (Int × Bool)) → Option (Int × Int × (List (Int × Bool)))
  | 0, _, _, _, _ => none
  | n + 1, p684, p685, p686, p687 =>
    bif (decide (p686 < (p687.length : Int))) then
      bif ((decide ((0 : Int) ≤ p686)) && (decide (p686 < (p687.length : Int)))) then
      (some ((p687.set p686.toNat (p684, (p687.getD p686.toNat (0, false)).2)) : List (Int × Bool))).bind fun z688 =>
      bif ((decide ((0 : Int) ≤ p686)) && (decide (p686 < (z688.length : Int)))) then
      (some ((z688.set p686.toNat ((z688.getD p686.toNat (0, false)).1, (decide ((Int.tmod (IntKind.wrap .i64 (p684 + (1 : Int))) (3 : Int)) = (0 : Int))))) : List (Int × Bool))).bind fun z689 =>
      f_laws_markWaitS.l0 n (IntKind.wrap .i64 ((IntKind.wrap .i64 (p684 + (1 : Int))) + (1 : Int))) p685 (IntKind.wrap .i64 (p686 + (1 : Int))) z689
      else none
      else none
    else
      some (p684, p685, p687)
noncomputable def f_laws_markWaitS (x0 : List (Int × Bool)) (x1 : Int) : Option (Int × (List (Int × Bool))) :=
  (f_laws_markWaitS.l0 N x1 0 0 x0).bind fun r690 =>
  some (r690.1, r690.2.2)
noncomputable def C169 : Con := ⟨[(.I, false, [(.sl R3)]), (.B, false, [(.int .i64)])], [(false, [(.int .i64)])], [(.sl R3), (.int .i64)], [(.int .i64), (.sl R3)], fun (p : (List (Int × Bool)) × Int) => f_laws_markWaitS p.1 p.2⟩
noncomputable def f_laws_markWaitS.l0.c : LoopCon := ⟨1000, 6, [0, 1, 4, 5], ⟨[(0, .ref 0 [] none), (1, .int .i64 0), (4, .int .i64 0), (5, .int .i64 0)], [(0, .row R3 [])], 1000⟩, [(.int .i64), (.int .i64), (.int .i64), (.sl R3)], [⟨.exit 0, [1, 4], ⟨[(1, .int .i64 0), (4, .int .i64 0)], [(0, .row R3 [])], 1000⟩, [(.int .i64), (.int .i64), (.sl R3)]⟩], fun (p : Int × Int × Int × (List (Int × Bool))) => f_laws_markWaitS.l0 N p.1 p.2.1 p.2.2.1 p.2.2.2⟩
noncomputable abbrev K169 : Cons := []
noncomputable abbrev L169 : List (Nat × Loops) := [(169, [(2, f_laws_markWaitS.l0.c)])]
abbrev Q169 : List (Nat × List (Int × Nat) × Nat) := []
noncomputable abbrev X169 : Nat → Ctx := ctxOf tb K169 L169 Q169
theorem f_laws_markWaitS.l0.ok : ∀ n p, (fun (p : Int × Int × Int × (List (Int × Bool))) => f_laws_markWaitS.l0 n p.1 p.2.1 p.2.2.1 p.2.2.2) p = iterD (roundOf fs X169 6 169 2 false f_laws_markWaitS.l0.c) n p :=
  iter_of (l := fun n => fun (p : Int × Int × Int × (List (Int × Bool))) => f_laws_markWaitS.l0 n p.1 p.2.1 p.2.2.1 p.2.2.2) (fun _ => rfl) (fun n p => by kernel_rfl)
theorem E169 : ∀ x, funG fs X169 6 169 C169 x = C169.fn x := fun x => by kernel_rfl
theorem B169 : ConG Tryz.prog 169 C169 := ConG.make FS MIX TY (cons := K169) (L := L169) (ptrs := Q169) trivial trivial ⟨⟨⟨N, fun p => f_laws_markWaitS.l0.ok N p⟩, trivial⟩, trivial⟩ rfl (by kernel_rfl) E169
theorem S169 : ConS Tryz.prog 169 C169 := B169.call (by kernel_rfl)
/-! laws.markHomeS: function 92 -/
noncomputable def f_laws_markHomeS.l0 : Nat → Int → Int → Int → (List (List Int × Int × List Bool × Bool × Int × Bool × Int × (List (Int × Bool)))) → Option (Int × Int × (List (List Int × Int × List Bool × Bool × Int × Bool × Int × (List (Int × Bool)))))
  | 0, _, _, _, _ => none
  | n + 1, p691, p692, p693, p694 =>
    bif (decide (p693 < (p694.length : Int))) then
      bif ((decide ((0 : Int) ≤ p693)) && (decide (p693 < (p694.length : Int)))) then
      (f_laws_markIntS ((p694.getD p693.toNat ([], 0, [], false, 0, false, 0, [])).1) p691).bind fun y695 =>
      (some ((p694.set p693.toNat (y695.2, (p694.getD p693.toNat ([], 0, [], false, 0, false, 0, [])).2.1, (p694.getD p693.toNat ([], 0, [], false, 0, false, 0, [])).2.2.1, (p694.getD p693.toNat ([], 0, [], false, 0, false, 0, [])).2.2.2.1, (p694.getD p693.toNat ([], 0, [], false, 0, false, 0, [])).2.2.2.2.1, (p694.getD p693.toNat ([], 0, [], false, 0, false, 0, [])).2.2.2.2.2.1, (p694.getD p693.toNat ([], 0, [], false, 0, false, 0, [])).2.2.2.2.2.2.1, (p694.getD p693.toNat ([], 0, [], false, 0, false, 0, [])).2.2.2.2.2.2.2)) : List (List Int × Int × List Bool × Bool × Int × Bool × Int × (List (Int × Bool))))).bind fun z696 =>
      bif ((decide ((0 : Int) ≤ p693)) && (decide (p693 < (z696.length : Int)))) then
      (some ((z696.set p693.toNat ((z696.getD p693.toNat ([], 0, [], false, 0, false, 0, [])).1, y695.1, (z696.getD p693.toNat ([], 0, [], false, 0, false, 0, [])).2.2.1, (z696.getD p693.toNat ([], 0, [], false, 0, false, 0, [])).2.2.2.1, (z696.getD p693.toNat ([], 0, [], false, 0, false, 0, [])).2.2.2.2.1, (z696.getD p693.toNat ([], 0, [], false, 0, false, 0, [])).2.2.2.2.2.1, (z696.getD p693.toNat ([], 0, [], false, 0, false, 0, [])).2.2.2.2.2.2.1, (z696.getD p693.toNat ([], 0, [], false, 0, false, 0, [])).2.2.2.2.2.2.2)) : List (List Int × Int × List Bool × Bool × Int × Bool × Int × (List (Int × Bool))))).bind fun z697 =>
      bif ((decide ((0 : Int) ≤ p693)) && (decide (p693 < (z697.length : Int)))) then
      (f_laws_markBoolS ((z697.getD p693.toNat ([], 0, [], false, 0, false, 0, [])).2.2.1) (IntKind.wrap .i64 (y695.1 + (1 : Int)))).bind fun y698 =>
      (some ((z697.set p693.toNat ((z697.getD p693.toNat ([], 0, [], false, 0, false, 0, [])).1, (z697.getD p693.toNat ([], 0, [], false, 0, false, 0, [])).2.1, y698.2, (z697.getD p693.toNat ([], 0, [], false, 0, false, 0, [])).2.2.2.1, (z697.getD p693.toNat ([], 0, [], false, 0, false, 0, [])).2.2.2.2.1, (z697.getD p693.toNat ([], 0, [], false, 0, false, 0, [])).2.2.2.2.2.1, (z697.getD p693.toNat ([], 0, [], false, 0, false, 0, [])).2.2.2.2.2.2.1, (z697.getD p693.toNat ([], 0, [], false, 0, false, 0, [])).2.2.2.2.2.2.2)) : List (List Int × Int × List Bool × Bool × Int × Bool × Int × (List (Int × Bool))))).bind fun z699 =>
      bif ((decide ((0 : Int) ≤ p693)) && (decide (p693 < (z699.length : Int)))) then
      (some ((z699.set p693.toNat ((z699.getD p693.toNat ([], 0, [], false, 0, false, 0, [])).1, (z699.getD p693.toNat ([], 0, [], false, 0, false, 0, [])).2.1, (z699.getD p693.toNat ([], 0, [], false, 0, false, 0, [])).2.2.1, (decide ((Int.tmod y698.1 (3 : Int)) = (0 : Int))), (z699.getD p693.toNat ([], 0, [], false, 0, false, 0, [])).2.2.2.2.1, (z699.getD p693.toNat ([], 0, [], false, 0, false, 0, [])).2.2.2.2.2.1, (z699.getD p693.toNat ([], 0, [], false, 0, false, 0, [])).2.2.2.2.2.2.1, (z699.getD p693.toNat ([], 0, [], false, 0, false, 0, [])).2.2.2.2.2.2.2)) : List (List Int × Int × List Bool × Bool × Int × Bool × Int × (List (Int × Bool))))).bind fun z700 =>
      bif ((decide ((0 : Int) ≤ p693)) && (decide (p693 < (z700.length : Int)))) then
      (some ((z700.set p693.toNat ((z700.getD p693.toNat ([], 0, [], false, 0, false, 0, [])).1, (z700.getD p693.toNat ([], 0, [], false, 0, false, 0, [])).2.1, (z700.getD p693.toNat ([], 0, [], false, 0, false, 0, [])).2.2.1, (z700.getD p693.toNat ([], 0, [], false, 0, false, 0, [])).2.2.2.1, (IntKind.wrap .i64 (y698.1 + (1 : Int))), (z700.getD p693.toNat ([], 0, [], false, 0, false, 0, [])).2.2.2.2.2.1, (z700.getD p693.toNat ([], 0, [], false, 0, false, 0, [])).2.2.2.2.2.2.1, (z700.getD p693.toNat ([], 0, [], false, 0, false, 0, [])).2.2.2.2.2.2.2)) : List (List Int × Int × List Bool × Bool × Int × Bool × Int × (List (Int × Bool))))).bind fun z701 =>
      bif ((decide ((0 : Int) ≤ p693)) && (decide (p693 < (z701.length : Int)))) then
      (some ((z701.set p693.toNat ((z701.getD p693.toNat ([], 0, [], false, 0, false, 0, [])).1, (z701.getD p693.toNat ([], 0, [], false, 0, false, 0, [])).2.1, (z701.getD p693.toNat ([], 0, [], false, 0, false, 0, [])).2.2.1, (z701.getD p693.toNat ([], 0, [], false, 0, false, 0, [])).2.2.2.1, (z701.getD p693.toNat ([], 0, [], false, 0, false, 0, [])).2.2.2.2.1, (decide ((Int.tmod (IntKind.wrap .i64 ((IntKind.wrap .i64 (y698.1 + (1 : Int))) + (1 : Int))) (3 : Int)) = (0 : Int))), (z701.getD p693.toNat ([], 0, [], false, 0, false, 0, [])).2.2.2.2.2.2.1, (z701.getD p693.toNat ([], 0, [], false, 0, false, 0, [])).2.2.2.2.2.2.2)) : List (List Int × Int × List Bool × Bool × Int × Bool × Int × (List (Int × Bool))))).bind fun z702 =>
      bif ((decide ((0 : Int) ≤ p693)) && (decide (p693 < (z702.length : Int)))) then
      (some ((z702.set p693.toNat ((z702.getD p693.toNat ([], 0, [], false, 0, false, 0, [])).1, (z702.getD p693.toNat ([], 0, [], false, 0, false, 0, [])).2.1, (z702.getD p693.toNat ([], 0, [], false, 0, false, 0, [])).2.2.1, (z702.getD p693.toNat ([], 0, [], false, 0, false, 0, [])).2.2.2.1, (z702.getD p693.toNat ([], 0, [], false, 0, false, 0, [])).2.2.2.2.1, (z702.getD p693.toNat ([], 0, [], false, 0, false, 0, [])).2.2.2.2.2.1, (IntKind.wrap .i64 ((IntKind.wrap .i64 ((IntKind.wrap .i64 (y698.1 + (1 : Int))) + (1 : Int))) + (1 : Int))), (z702.getD p693.toNat ([], 0, [], false, 0, false, 0, [])).2.2.2.2.2.2.2)) : List (List Int × Int × List Bool × Bool × Int × Bool × Int × (List (Int × Bool))))).bind fun z703 =>
      bif ((decide ((0 : Int) ≤ p693)) && (decide (p693 < (z703.length : Int)))) then
      (f_laws_markWaitS ((z703.getD p693.toNat ([], 0, [], false, 0, false, 0, [])).2.2.2.2.2.2.2) (IntKind.wrap .i64 ((IntKind.wrap .i64 ((IntKind.wrap .i64 ((IntKind.wrap .i64 (y698.1 + (1 : Int))) + (1 : Int))) + (1 : Int))) + (1 : Int)))).bind fun y704 =>
      (some ((z703.set p693.toNat ((z703.getD p693.toNat ([], 0, [], false, 0, false, 0, [])).1, (z703.getD p693.toNat ([], 0, [], false, 0, false, 0, [])).2.1, (z703.getD p693.toNat ([], 0, [], false, 0, false, 0, [])).2.2.1, (z703.getD p693.toNat ([], 0, [], false, 0, false, 0, [])).2.2.2.1, (z703.getD p693.toNat ([], 0, [], false, 0, false, 0, [])).2.2.2.2.1, (z703.getD p693.toNat ([], 0, [], false, 0, false, 0, [])).2.2.2.2.2.1, (z703.getD p693.toNat ([], 0, [], false, 0, false, 0, [])).2.2.2.2.2.2.1, y704.2)) : List (List Int × Int × List Bool × Bool × Int × Bool × Int × (List (Int × Bool))))).bind fun z705 =>
      f_laws_markHomeS.l0 n y704.1 p692 (IntKind.wrap .i64 (p693 + (1 : Int))) z705
      else none
      else none
      else none
      else none
      else none
      else none
      else none
      else none
    else
      some (p691, p692, p694)
noncomputable def f_laws_markHomeS (x0 : List (List Int × Int × List Bool × Bool × Int × Bool × Int × (List (Int × Bool)))) (x1 : Int) : Option (Int × (List (List Int × Int × List Bool × Bool × Int × Bool × Int × (List (Int × Bool))))) :=
  (f_laws_markHomeS.l0 N x1 0 0 x0).bind fun r706 =>
  some (r706.1, r706.2.2)
noncomputable def C92 : Con := ⟨[(.I, false, [(.sl R4)]), (.B, false, [(.int .i64)])], [(false, [(.int .i64)])], [(.sl R4), (.int .i64)], [(.int .i64), (.sl R4)], fun (p : (List (List Int × Int × List Bool × Bool × Int × Bool × Int × (List (Int × Bool)))) × Int) => f_laws_markHomeS p.1 p.2⟩
noncomputable def f_laws_markHomeS.l0.c : LoopCon := ⟨1000, 6, [0, 1, 4, 5], ⟨[(0, .ref 0 [] none), (1, .int .i64 0), (4, .int .i64 0), (5, .int .i64 0)], [(0, .row R4 [])], 1000⟩, [(.int .i64), (.int .i64), (.int .i64), (.sl R4)], [⟨.exit 0, [1, 4], ⟨[(1, .int .i64 0), (4, .int .i64 0)], [(0, .row R4 [])], 1000⟩, [(.int .i64), (.int .i64), (.sl R4)]⟩], fun (p : Int × Int × Int × (List (List Int × Int × List Bool × Bool × Int × Bool × Int × (List (Int × Bool))))) => f_laws_markHomeS.l0 N p.1 p.2.1 p.2.2.1 p.2.2.2⟩
noncomputable abbrev K92 : Cons := [(40, C40), (168, C168), (169, C169)]
noncomputable abbrev L92 : List (Nat × Loops) := [(92, [(2, f_laws_markHomeS.l0.c)])]
abbrev Q92 : List (Nat × List (Int × Nat) × Nat) := []
noncomputable abbrev X92 : Nat → Ctx := ctxOf tb K92 L92 Q92
theorem f_laws_markHomeS.l0.ok : ∀ n p, (fun (p : Int × Int × Int × (List (List Int × Int × List Bool × Bool × Int × Bool × Int × (List (Int × Bool))))) => f_laws_markHomeS.l0 n p.1 p.2.1 p.2.2.1 p.2.2.2) p = iterD (roundOf fs X92 6 92 2 false f_laws_markHomeS.l0.c) n p :=
  iter_of (l := fun n => fun (p : Int × Int × Int × (List (List Int × Int × List Bool × Bool × Int × Bool × Int × (List (Int × Bool))))) => f_laws_markHomeS.l0 n p.1 p.2.1 p.2.2.1 p.2.2.2) (fun _ => rfl) (fun n p => by kernel_rfl)
theorem E92 : ∀ x, funG fs X92 6 92 C92 x = C92.fn x := fun x => by kernel_rfl
theorem B92 : ConG Tryz.prog 92 C92 := ConG.make FS MIX TY (cons := K92) (L := L92) (ptrs := Q92) ⟨S40, S168, S169, trivial⟩ trivial ⟨⟨⟨N, fun p => f_laws_markHomeS.l0.ok N p⟩, trivial⟩, trivial⟩ rfl (by kernel_rfl) E92
theorem S92 : ConS Tryz.prog 92 C92 := B92.call (by kernel_rfl)
/-! laws.markMsgS: function 29 -/
noncomputable def f_laws_markMsgS.l0 : Nat → Int → Int → Int → (List (Int × Int × Bool × List Int)) → Option (Int × Int × (List (Int × Int × Bool × List Int)))
  | 0, _, _, _, _ => none
  | n + 1, p707, p708, p709, p710 =>
    bif (decide (p709 < (p710.length : Int))) then
      bif ((decide ((0 : Int) ≤ p709)) && (decide (p709 < (p710.length : Int)))) then
      (some ((p710.set p709.toNat (p707, (p710.getD p709.toNat (0, 0, false, [])).2.1, (p710.getD p709.toNat (0, 0, false, [])).2.2.1, (p710.getD p709.toNat (0, 0, false, [])).2.2.2)) : List (Int × Int × Bool × List Int))).bind fun z711 =>
      bif ((decide ((0 : Int) ≤ p709)) && (decide (p709 < (z711.length : Int)))) then
      (some ((z711.set p709.toNat ((z711.getD p709.toNat (0, 0, false, [])).1, (IntKind.wrap .i64 (p707 + (1 : Int))), (z711.getD p709.toNat (0, 0, false, [])).2.2.1, (z711.getD p709.toNat (0, 0, false, [])).2.2.2)) : List (Int × Int × Bool × List Int))).bind fun z712 =>
      bif ((decide ((0 : Int) ≤ p709)) && (decide (p709 < (z712.length : Int)))) then
      (some ((z712.set p709.toNat ((z712.getD p709.toNat (0, 0, false, [])).1, (z712.getD p709.toNat (0, 0, false, [])).2.1, (decide ((Int.tmod (IntKind.wrap .i64 ((IntKind.wrap .i64 (p707 + (1 : Int))) + (1 : Int))) (3 : Int)) = (0 : Int))), (z712.getD p709.toNat (0, 0, false, [])).2.2.2)) : List (Int × Int × Bool × List Int))).bind fun z713 =>
      bif ((decide ((0 : Int) ≤ p709)) && (decide (p709 < (z713.length : Int)))) then
      (f_laws_markIntS ((z713.getD p709.toNat (0, 0, false, [])).2.2.2) (IntKind.wrap .i64 ((IntKind.wrap .i64 ((IntKind.wrap .i64 (p707 + (1 : Int))) + (1 : Int))) + (1 : Int)))).bind fun y714 =>
      (some ((z713.set p709.toNat ((z713.getD p709.toNat (0, 0, false, [])).1, (z713.getD p709.toNat (0, 0, false, [])).2.1, (z713.getD p709.toNat (0, 0, false, [])).2.2.1, y714.2)) : List (Int × Int × Bool × List Int))).bind fun z715 =>
      f_laws_markMsgS.l0 n y714.1 p708 (IntKind.wrap .i64 (p709 + (1 : Int))) z715
      else none
      else none
      else none
      else none
    else
      some (p707, p708, p710)
noncomputable def f_laws_markMsgS (x0 : List (Int × Int × Bool × List Int)) (x1 : Int) : Option (Int × (List (Int × Int × Bool × List Int))) :=
  (f_laws_markMsgS.l0 N x1 0 0 x0).bind fun r716 =>
  some (r716.1, r716.2.2)
noncomputable def C29 : Con := ⟨[(.I, false, [(.sl R5)]), (.B, false, [(.int .i64)])], [(false, [(.int .i64)])], [(.sl R5), (.int .i64)], [(.int .i64), (.sl R5)], fun (p : (List (Int × Int × Bool × List Int)) × Int) => f_laws_markMsgS p.1 p.2⟩
noncomputable def f_laws_markMsgS.l0.c : LoopCon := ⟨1000, 6, [0, 1, 4, 5], ⟨[(0, .ref 0 [] none), (1, .int .i64 0), (4, .int .i64 0), (5, .int .i64 0)], [(0, .row R5 [])], 1000⟩, [(.int .i64), (.int .i64), (.int .i64), (.sl R5)], [⟨.exit 0, [1, 4], ⟨[(1, .int .i64 0), (4, .int .i64 0)], [(0, .row R5 [])], 1000⟩, [(.int .i64), (.int .i64), (.sl R5)]⟩], fun (p : Int × Int × Int × (List (Int × Int × Bool × List Int))) => f_laws_markMsgS.l0 N p.1 p.2.1 p.2.2.1 p.2.2.2⟩
noncomputable abbrev K29 : Cons := [(40, C40)]
noncomputable abbrev L29 : List (Nat × Loops) := [(29, [(2, f_laws_markMsgS.l0.c)])]
abbrev Q29 : List (Nat × List (Int × Nat) × Nat) := []
noncomputable abbrev X29 : Nat → Ctx := ctxOf tb K29 L29 Q29
theorem f_laws_markMsgS.l0.ok : ∀ n p, (fun (p : Int × Int × Int × (List (Int × Int × Bool × List Int))) => f_laws_markMsgS.l0 n p.1 p.2.1 p.2.2.1 p.2.2.2) p = iterD (roundOf fs X29 6 29 2 false f_laws_markMsgS.l0.c) n p :=
  iter_of (l := fun n => fun (p : Int × Int × Int × (List (Int × Int × Bool × List Int))) => f_laws_markMsgS.l0 n p.1 p.2.1 p.2.2.1 p.2.2.2) (fun _ => rfl) (fun n p => by kernel_rfl)
theorem E29 : ∀ x, funG fs X29 6 29 C29 x = C29.fn x := fun x => by kernel_rfl
theorem B29 : ConG Tryz.prog 29 C29 := ConG.make FS MIX TY (cons := K29) (L := L29) (ptrs := Q29) ⟨S40, trivial⟩ trivial ⟨⟨⟨N, fun p => f_laws_markMsgS.l0.ok N p⟩, trivial⟩, trivial⟩ rfl (by kernel_rfl) E29
theorem S29 : ConS Tryz.prog 29 C29 := B29.call (by kernel_rfl)
/-! laws.markSenderS: function 93 -/
noncomputable def f_laws_markSenderS.l0 : Nat → Int → Int → Int → (List (Int × (List (Int × Int × Bool × List Int)))) → Option (Int × Int × (List (Int × (List (Int × Int × Bool × List Int)))))
  | 0, _, _, _, _ => none
  | n + 1, p717, p718, p719, p720 =>
    bif (decide (p719 < (p720.length : Int))) then
      bif ((decide ((0 : Int) ≤ p719)) && (decide (p719 < (p720.length : Int)))) then
      (some ((p720.set p719.toNat (p717, (p720.getD p719.toNat (0, [])).2)) : List (Int × (List (Int × Int × Bool × List Int))))).bind fun z721 =>
      bif ((decide ((0 : Int) ≤ p719)) && (decide (p719 < (z721.length : Int)))) then
      (f_laws_markMsgS ((z721.getD p719.toNat (0, [])).2) (IntKind.wrap .i64 (p717 + (1 : Int)))).bind fun y722 =>
      (some ((z721.set p719.toNat ((z721.getD p719.toNat (0, [])).1, y722.2)) : List (Int × (List (Int × Int × Bool × List Int))))).bind fun z723 =>
      f_laws_markSenderS.l0 n y722.1 p718 (IntKind.wrap .i64 (p719 + (1 : Int))) z723
      else none
      else none
    else
      some (p717, p718, p720)
noncomputable def f_laws_markSenderS (x0 : List (Int × (List (Int × Int × Bool × List Int)))) (x1 : Int) : Option (Int × (List (Int × (List (Int × Int × Bool × List Int))))) :=
  (f_laws_markSenderS.l0 N x1 0 0 x0).bind fun r724 =>
  some (r724.1, r724.2.2)
noncomputable def C93 : Con := ⟨[(.I, false, [(.sl R6)]), (.B, false, [(.int .i64)])], [(false, [(.int .i64)])], [(.sl R6), (.int .i64)], [(.int .i64), (.sl R6)], fun (p : (List (Int × (List (Int × Int × Bool × List Int)))) × Int) => f_laws_markSenderS p.1 p.2⟩
noncomputable def f_laws_markSenderS.l0.c : LoopCon := ⟨1000, 6, [0, 1, 4, 5], ⟨[(0, .ref 0 [] none), (1, .int .i64 0), (4, .int .i64 0), (5, .int .i64 0)], [(0, .row R6 [])], 1000⟩, [(.int .i64), (.int .i64), (.int .i64), (.sl R6)], [⟨.exit 0, [1, 4], ⟨[(1, .int .i64 0), (4, .int .i64 0)], [(0, .row R6 [])], 1000⟩, [(.int .i64), (.int .i64), (.sl R6)]⟩], fun (p : Int × Int × Int × (List (Int × (List (Int × Int × Bool × List Int))))) => f_laws_markSenderS.l0 N p.1 p.2.1 p.2.2.1 p.2.2.2⟩
noncomputable abbrev K93 : Cons := [(29, C29)]
noncomputable abbrev L93 : List (Nat × Loops) := [(93, [(2, f_laws_markSenderS.l0.c)])]
abbrev Q93 : List (Nat × List (Int × Nat) × Nat) := []
noncomputable abbrev X93 : Nat → Ctx := ctxOf tb K93 L93 Q93
theorem f_laws_markSenderS.l0.ok : ∀ n p, (fun (p : Int × Int × Int × (List (Int × (List (Int × Int × Bool × List Int))))) => f_laws_markSenderS.l0 n p.1 p.2.1 p.2.2.1 p.2.2.2) p = iterD (roundOf fs X93 6 93 2 false f_laws_markSenderS.l0.c) n p :=
  iter_of (l := fun n => fun (p : Int × Int × Int × (List (Int × (List (Int × Int × Bool × List Int))))) => f_laws_markSenderS.l0 n p.1 p.2.1 p.2.2.1 p.2.2.2) (fun _ => rfl) (fun n p => by kernel_rfl)
theorem E93 : ∀ x, funG fs X93 6 93 C93 x = C93.fn x := fun x => by kernel_rfl
theorem B93 : ConG Tryz.prog 93 C93 := ConG.make FS MIX TY (cons := K93) (L := L93) (ptrs := Q93) ⟨S29, trivial⟩ trivial ⟨⟨⟨N, fun p => f_laws_markSenderS.l0.ok N p⟩, trivial⟩, trivial⟩ rfl (by kernel_rfl) E93
theorem S93 : ConS Tryz.prog 93 C93 := B93.call (by kernel_rfl)
/-! laws.markReceiverS: function 94 -/
noncomputable def f_laws_markReceiverS.l0 : Nat → Int → Int → Int → (List Int) → Option (Int × Int × List Int)
  | 0, _, _, _, _ => none
  | n + 1, p725, p726, p727, p728 =>
    bif (decide (p727 < (p728.length : Int))) then
      bif ((decide ((0 : Int) ≤ p727)) && (decide (p727 < (p728.length : Int)))) then
      (some ((p728.set p727.toNat p725) : List Int)).bind fun z729 =>
      f_laws_markReceiverS.l0 n (IntKind.wrap .i64 (p725 + (1 : Int))) p726 (IntKind.wrap .i64 (p727 + (1 : Int))) z729
      else none
    else
      some (p725, p726, p728)
noncomputable def f_laws_markReceiverS (x0 : List Int) (x1 : Int) : Option (Int × List Int) :=
  (f_laws_markReceiverS.l0 N x1 0 0 x0).bind fun r730 =>
  some (r730.1, r730.2.2)
noncomputable def C94 : Con := ⟨[(.I, false, [(.sl R0)]), (.B, false, [(.int .i64)])], [(false, [(.int .i64)])], [(.sl R0), (.int .i64)], [(.int .i64), (.sl R0)], fun (p : List Int × Int) => f_laws_markReceiverS p.1 p.2⟩
noncomputable def f_laws_markReceiverS.l0.c : LoopCon := ⟨1000, 6, [0, 1, 4, 5], ⟨[(0, .ref 0 [] none), (1, .int .i64 0), (4, .int .i64 0), (5, .int .i64 0)], [(0, .row R0 [])], 1000⟩, [(.int .i64), (.int .i64), (.int .i64), (.sl R0)], [⟨.exit 0, [1, 4], ⟨[(1, .int .i64 0), (4, .int .i64 0)], [(0, .row R0 [])], 1000⟩, [(.int .i64), (.int .i64), (.sl R0)]⟩], fun (p : Int × Int × Int × List Int) => f_laws_markReceiverS.l0 N p.1 p.2.1 p.2.2.1 p.2.2.2⟩
noncomputable abbrev K94 : Cons := []
noncomputable abbrev L94 : List (Nat × Loops) := [(94, [(2, f_laws_markReceiverS.l0.c)])]
abbrev Q94 : List (Nat × List (Int × Nat) × Nat) := []
noncomputable abbrev X94 : Nat → Ctx := ctxOf tb K94 L94 Q94
theorem f_laws_markReceiverS.l0.ok : ∀ n p, (fun (p : Int × Int × Int × List Int) => f_laws_markReceiverS.l0 n p.1 p.2.1 p.2.2.1 p.2.2.2) p = iterD (roundOf fs X94 6 94 2 false f_laws_markReceiverS.l0.c) n p :=
  iter_of (l := fun n => fun (p : Int × Int × Int × List Int) => f_laws_markReceiverS.l0 n p.1 p.2.1 p.2.2.1 p.2.2.2) (fun _ => rfl) (fun n p => by kernel_rfl)
theorem E94 : ∀ x, funG fs X94 6 94 C94 x = C94.fn x := fun x => by kernel_rfl
theorem B94 : ConG Tryz.prog 94 C94 := ConG.make FS MIX TY (cons := K94) (L := L94) (ptrs := Q94) trivial trivial ⟨⟨⟨N, fun p => f_laws_markReceiverS.l0.ok N p⟩, trivial⟩, trivial⟩ rfl (by kernel_rfl) E94
theorem S94 : ConS Tryz.prog 94 C94 := B94.call (by kernel_rfl)
/-! laws.markNodeS: function 102 -/
noncomputable def f_laws_markNodeS.l0 : Nat → Int → Int → Int → (List (Int × (List (Int × List Int × Bool)) × (List (List Int × Int × List Bool × Bool × Int × Bool × Int × (List (Int × Bool)))) × (List (Int × (List (Int × Int × Bool × List Int)))) × List Int)) → Option (Int × Int × (List (Int × (List (Int × List Int × Bool)) × (List (List Int × Int × List Bool × Bool × Int × Bool × Int × (List (Int × Bool)))) × (List (Int × (List (Int × Int × Bool × List Int)))) × List Int)))
  | 0, _, _, _, _ => none
  | n + 1, p731, p732, p733, p734 =>
    bif (decide (p733 < (p734.length : Int))) then
      bif ((decide ((0 : Int) ≤ p733)) && (decide (p733 < (p734.length : Int)))) then
      (some ((p734.set p733.toNat (p731, (p734.getD p733.toNat (0, [], [], [], [])).2.1, (p734.getD p733.toNat (0, [], [], [], [])).2.2.1, (p734.getD p733.toNat (0, [], [], [], [])).2.2.2.1, (p734.getD p733.toNat (0, [], [], [], [])).2.2.2.2)) : List (Int × (List (Int × List Int × Bool)) × (List (List Int × Int × List Bool × Bool × Int × Bool × Int × (List (Int × Bool)))) × (List (Int × (List (Int × Int × Bool × List Int)))) × List Int))).bind fun z735 =>
      bif ((decide ((0 : Int) ≤ p733)) && (decide (p733 < (z735.length : Int)))) then
      (f_laws_markFrameS ((z735.getD p733.toNat (0, [], [], [], [])).2.1) (IntKind.wrap .i64 (p731 + (1 : Int)))).bind fun y736 =>
      (some ((z735.set p733.toNat ((z735.getD p733.toNat (0, [], [], [], [])).1, y736.2, (z735.getD p733.toNat (0, [], [], [], [])).2.2.1, (z735.getD p733.toNat (0, [], [], [], [])).2.2.2.1, (z735.getD p733.toNat (0, [], [], [], [])).2.2.2.2)) : List (Int × (List (Int × List Int × Bool)) × (List (List Int × Int × List Bool × Bool × Int × Bool × Int × (List (Int × Bool)))) × (List (Int × (List (Int × Int × Bool × List Int)))) × List Int))).bind fun z737 =>
      bif ((decide ((0 : Int) ≤ p733)) && (decide (p733 < (z737.length : Int)))) then
      (f_laws_markHomeS ((z737.getD p733.toNat (0, [], [], [], [])).2.2.1) y736.1).bind fun y738 =>
      (some ((z737.set p733.toNat ((z737.getD p733.toNat (0, [], [], [], [])).1, (z737.getD p733.toNat (0, [], [], [], [])).2.1, y738.2, (z737.getD p733.toNat (0, [], [], [], [])).2.2.2.1, (z737.getD p733.toNat (0, [], [], [], [])).2.2.2.2)) : List (Int × (List (Int × List Int × Bool)) × (List (List Int × Int × List Bool × Bool × Int × Bool × Int × (List (Int × Bool)))) × (List (Int × (List (Int × Int × Bool × List Int)))) × List Int))).bind fun z739 =>
      bif ((decide ((0 : Int) ≤ p733)) && (decide (p733 < (z739.length : Int)))) then
      (f_laws_markSenderS ((z739.getD p733.toNat (0, [], [], [], [])).2.2.2.1) y738.1).bind fun y740 =>
      (some ((z739.set p733.toNat ((z739.getD p733.toNat (0, [], [], [], [])).1, (z739.getD p733.toNat (0, [], [], [], [])).2.1, (z739.getD p733.toNat (0, [], [], [], [])).2.2.1, y740.2, (z739.getD p733.toNat (0, [], [], [], [])).2.2.2.2)) : List (Int × (List (Int × List Int × Bool)) × (List (List Int × Int × List Bool × Bool × Int × Bool × Int × (List (Int × Bool)))) × (List (Int × (List (Int × Int × Bool × List Int)))) × List Int))).bind fun z741 =>
      bif ((decide ((0 : Int) ≤ p733)) && (decide (p733 < (z741.length : Int)))) then
      (f_laws_markReceiverS ((z741.getD p733.toNat (0, [], [], [], [])).2.2.2.2) y740.1).bind fun y742 =>
      (some ((z741.set p733.toNat ((z741.getD p733.toNat (0, [], [], [], [])).1, (z741.getD p733.toNat (0, [], [], [], [])).2.1, (z741.getD p733.toNat (0, [], [], [], [])).2.2.1, (z741.getD p733.toNat (0, [], [], [], [])).2.2.2.1, y742.2)) : List (Int × (List (Int × List Int × Bool)) × (List (List Int × Int × List Bool × Bool × Int × Bool × Int × (List (Int × Bool)))) × (List (Int × (List (Int × Int × Bool × List Int)))) × List Int))).bind fun z743 =>
      f_laws_markNodeS.l0 n y742.1 p732 (IntKind.wrap .i64 (p733 + (1 : Int))) z743
      else none
      else none
      else none
      else none
      else none
    else
      some (p731, p732, p734)
noncomputable def f_laws_markNodeS (x0 : List (Int × (List (Int × List Int × Bool)) × (List (List Int × Int × List Bool × Bool × Int × Bool × Int × (List (Int × Bool)))) × (List (Int × (List (Int × Int × Bool × List Int)))) × List Int)) (x1 : Int) : Option (Int × (List (Int × (List (Int × List Int × Bool)) × (List (List Int × Int × List Bool × Bool × Int × Bool × Int × (List (Int × Bool)))) × (List (Int × (List (Int × Int × Bool × List Int)))) × List Int))) :=
  (f_laws_markNodeS.l0 N x1 0 0 x0).bind fun r744 =>
  some (r744.1, r744.2.2)
noncomputable def C102 : Con := ⟨[(.I, false, [(.sl R7)]), (.B, false, [(.int .i64)])], [(false, [(.int .i64)])], [(.sl R7), (.int .i64)], [(.int .i64), (.sl R7)], fun (p : (List (Int × (List (Int × List Int × Bool)) × (List (List Int × Int × List Bool × Bool × Int × Bool × Int × (List (Int × Bool)))) × (List (Int × (List (Int × Int × Bool × List Int)))) × List Int)) × Int) => f_laws_markNodeS p.1 p.2⟩
noncomputable def f_laws_markNodeS.l0.c : LoopCon := ⟨1000, 6, [0, 1, 4, 5], ⟨[(0, .ref 0 [] none), (1, .int .i64 0), (4, .int .i64 0), (5, .int .i64 0)], [(0, .row R7 [])], 1000⟩, [(.int .i64), (.int .i64), (.int .i64), (.sl R7)], [⟨.exit 0, [1, 4], ⟨[(1, .int .i64 0), (4, .int .i64 0)], [(0, .row R7 [])], 1000⟩, [(.int .i64), (.int .i64), (.sl R7)]⟩], fun (p : Int × Int × Int × (List (Int × (List (Int × List Int × Bool)) × (List (List Int × Int × List Bool × Bool × Int × Bool × Int × (List (Int × Bool)))) × (List (Int × (List (Int × Int × Bool × List Int)))) × List Int))) => f_laws_markNodeS.l0 N p.1 p.2.1 p.2.2.1 p.2.2.2⟩
noncomputable abbrev K102 : Cons := [(91, C91), (92, C92), (93, C93), (94, C94)]
noncomputable abbrev L102 : List (Nat × Loops) := [(102, [(2, f_laws_markNodeS.l0.c)])]
abbrev Q102 : List (Nat × List (Int × Nat) × Nat) := []
noncomputable abbrev X102 : Nat → Ctx := ctxOf tb K102 L102 Q102
theorem f_laws_markNodeS.l0.ok : ∀ n p, (fun (p : Int × Int × Int × (List (Int × (List (Int × List Int × Bool)) × (List (List Int × Int × List Bool × Bool × Int × Bool × Int × (List (Int × Bool)))) × (List (Int × (List (Int × Int × Bool × List Int)))) × List Int))) => f_laws_markNodeS.l0 n p.1 p.2.1 p.2.2.1 p.2.2.2) p = iterD (roundOf fs X102 6 102 2 false f_laws_markNodeS.l0.c) n p :=
  iter_of (l := fun n => fun (p : Int × Int × Int × (List (Int × (List (Int × List Int × Bool)) × (List (List Int × Int × List Bool × Bool × Int × Bool × Int × (List (Int × Bool)))) × (List (Int × (List (Int × Int × Bool × List Int)))) × List Int))) => f_laws_markNodeS.l0 n p.1 p.2.1 p.2.2.1 p.2.2.2) (fun _ => rfl) (fun n p => by kernel_rfl)
theorem E102 : ∀ x, funG fs X102 6 102 C102 x = C102.fn x := fun x => by kernel_rfl
theorem B102 : ConG Tryz.prog 102 C102 := ConG.make FS MIX TY (cons := K102) (L := L102) (ptrs := Q102) ⟨S91, S92, S93, S94, trivial⟩ trivial ⟨⟨⟨N, fun p => f_laws_markNodeS.l0.ok N p⟩, trivial⟩, trivial⟩ rfl (by kernel_rfl) E102
theorem S102 : ConS Tryz.prog 102 C102 := B102.call (by kernel_rfl)
/-! laws.markPacketS: function 103 -/
noncomputable def f_laws_markPacketS.l0 : Nat → Int → Int → Int → (List (Int × Int × Bool × Int × Int × Int × Bool × List Int)) → Option (Int × Int × (List (Int × Int × Bool × Int × Int × Int × Bool × List Int)))
  | 0, _, _, _, _ => none
  | n + 1, p745, p746, p747, p748 =>
    bif (decide (p747 < (p748.length : Int))) then
      bif ((decide ((0 : Int) ≤ p747)) && (decide (p747 < (p748.length : Int)))) then
      (some ((p748.set p747.toNat (p745, (p748.getD p747.toNat (0, 0, false, 0, 0, 0, false, [])).2.1, (p748.getD p747.toNat (0, 0, false, 0, 0, 0, false, [])).2.2.1, (p748.getD p747.toNat (0, 0, false, 0, 0, 0, false, [])).2.2.2.1, (p748.getD p747.toNat (0, 0, false, 0, 0, 0, false, [])).2.2.2.2.1, (p748.getD p747.toNat (0, 0, false, 0, 0, 0, false, [])).2.2.2.2.2.1, (p748.getD p747.toNat (0, 0, false, 0, 0, 0, false, [])).2.2.2.2.2.2.1, (p748.getD p747.toNat (0, 0, false, 0, 0, 0, false, [])).2.2.2.2.2.2.2)) : List (Int × Int × Bool × Int × Int × Int × Bool × List Int))).bind fun z749 =>
      bif ((decide ((0 : Int) ≤ p747)) && (decide (p747 < (z749.length : Int)))) then
      (some ((z749.set p747.toNat ((z749.getD p747.toNat (0, 0, false, 0, 0, 0, false, [])).1, (IntKind.wrap .i64 (p745 + (1 : Int))), (z749.getD p747.toNat (0, 0, false, 0, 0, 0, false, [])).2.2.1, (z749.getD p747.toNat (0, 0, false, 0, 0, 0, false, [])).2.2.2.1, (z749.getD p747.toNat (0, 0, false, 0, 0, 0, false, [])).2.2.2.2.1, (z749.getD p747.toNat (0, 0, false, 0, 0, 0, false, [])).2.2.2.2.2.1, (z749.getD p747.toNat (0, 0, false, 0, 0, 0, false, [])).2.2.2.2.2.2.1, (z749.getD p747.toNat (0, 0, false, 0, 0, 0, false, [])).2.2.2.2.2.2.2)) : List (Int × Int × Bool × Int × Int × Int × Bool × List Int))).bind fun z750 =>
      bif ((decide ((0 : Int) ≤ p747)) && (decide (p747 < (z750.length : Int)))) then
      (some ((z750.set p747.toNat ((z750.getD p747.toNat (0, 0, false, 0, 0, 0, false, [])).1, (z750.getD p747.toNat (0, 0, false, 0, 0, 0, false, [])).2.1, (decide ((Int.tmod (IntKind.wrap .i64 ((IntKind.wrap .i64 (p745 + (1 : Int))) + (1 : Int))) (3 : Int)) = (0 : Int))), (z750.getD p747.toNat (0, 0, false, 0, 0, 0, false, [])).2.2.2.1, (z750.getD p747.toNat (0, 0, false, 0, 0, 0, false, [])).2.2.2.2.1, (z750.getD p747.toNat (0, 0, false, 0, 0, 0, false, [])).2.2.2.2.2.1, (z750.getD p747.toNat (0, 0, false, 0, 0, 0, false, [])).2.2.2.2.2.2.1, (z750.getD p747.toNat (0, 0, false, 0, 0, 0, false, [])).2.2.2.2.2.2.2)) : List (Int × Int × Bool × Int × Int × Int × Bool × List Int))).bind fun z751 =>
      bif ((decide ((0 : Int) ≤ p747)) && (decide (p747 < (z751.length : Int)))) then
      (some ((z751.set p747.toNat ((z751.getD p747.toNat (0, 0, false, 0, 0, 0, false, [])).1, (z751.getD p747.toNat (0, 0, false, 0, 0, 0, false, [])).2.1, (z751.getD p747.toNat (0, 0, false, 0, 0, 0, false, [])).2.2.1, (IntKind.wrap .i64 ((IntKind.wrap .i64 ((IntKind.wrap .i64 (p745 + (1 : Int))) + (1 : Int))) + (1 : Int))), (z751.getD p747.toNat (0, 0, false, 0, 0, 0, false, [])).2.2.2.2.1, (z751.getD p747.toNat (0, 0, false, 0, 0, 0, false, [])).2.2.2.2.2.1, (z751.getD p747.toNat (0, 0, false, 0, 0, 0, false, [])).2.2.2.2.2.2.1, (z751.getD p747.toNat (0, 0, false, 0, 0, 0, false, [])).2.2.2.2.2.2.2)) : List (Int × Int × Bool × Int × Int × Int × Bool × List Int))).bind fun z752 =>
      bif ((decide ((0 : Int) ≤ p747)) && (decide (p747 < (z752.length : Int)))) then
      (some ((z752.set p747.toNat ((z752.getD p747.toNat (0, 0, false, 0, 0, 0, false, [])).1, (z752.getD p747.toNat (0, 0, false, 0, 0, 0, false, [])).2.1, (z752.getD p747.toNat (0, 0, false, 0, 0, 0, false, [])).2.2.1, (z752.getD p747.toNat (0, 0, false, 0, 0, 0, false, [])).2.2.2.1, (IntKind.wrap .i64 ((IntKind.wrap .i64 ((IntKind.wrap .i64 ((IntKind.wrap .i64 (p745 + (1 : Int))) + (1 : Int))) + (1 : Int))) + (1 : Int))), (z752.getD p747.toNat (0, 0, false, 0, 0, 0, false, [])).2.2.2.2.2.1, (z752.getD p747.toNat (0, 0, false, 0, 0, 0, false, [])).2.2.2.2.2.2.1, (z752.getD p747.toNat (0, 0, false, 0, 0, 0, false, [])).2.2.2.2.2.2.2)) : List (Int × Int × Bool × Int × Int × Int × Bool × List Int))).bind fun z753 =>
      bif ((decide ((0 : Int) ≤ p747)) && (decide (p747 < (z753.length : Int)))) then
      (some ((z753.set p747.toNat ((z753.getD p747.toNat (0, 0, false, 0, 0, 0, false, [])).1, (z753.getD p747.toNat (0, 0, false, 0, 0, 0, false, [])).2.1, (z753.getD p747.toNat (0, 0, false, 0, 0, 0, false, [])).2.2.1, (z753.getD p747.toNat (0, 0, false, 0, 0, 0, false, [])).2.2.2.1, (z753.getD p747.toNat (0, 0, false, 0, 0, 0, false, [])).2.2.2.2.1, (IntKind.wrap .i64 ((IntKind.wrap .i64 ((IntKind.wrap .i64 ((IntKind.wrap .i64 ((IntKind.wrap .i64 (p745 + (1 : Int))) + (1 : Int))) + (1 : Int))) + (1 : Int))) + (1 : Int))), (z753.getD p747.toNat (0, 0, false, 0, 0, 0, false, [])).2.2.2.2.2.2.1, (z753.getD p747.toNat (0, 0, false, 0, 0, 0, false, [])).2.2.2.2.2.2.2)) : List (Int × Int × Bool × Int × Int × Int × Bool × List Int))).bind fun z754 =>
      bif ((decide ((0 : Int) ≤ p747)) && (decide (p747 < (z754.length : Int)))) then
      (some ((z754.set p747.toNat ((z754.getD p747.toNat (0, 0, false, 0, 0, 0, false, [])).1, (z754.getD p747.toNat (0, 0, false, 0, 0, 0, false, [])).2.1, (z754.getD p747.toNat (0, 0, false, 0, 0, 0, false, [])).2.2.1, (z754.getD p747.toNat (0, 0, false, 0, 0, 0, false, [])).2.2.2.1, (z754.getD p747.toNat (0, 0, false, 0, 0, 0, false, [])).2.2.2.2.1, (z754.getD p747.toNat (0, 0, false, 0, 0, 0, false, [])).2.2.2.2.2.1, (decide ((Int.tmod (IntKind.wrap .i64 ((IntKind.wrap .i64 ((IntKind.wrap .i64 ((IntKind.wrap .i64 ((IntKind.wrap .i64 ((IntKind.wrap .i64 (p745 + (1 : Int))) + (1 : Int))) + (1 : Int))) + (1 : Int))) + (1 : Int))) + (1 : Int))) (3 : Int)) = (0 : Int))), (z754.getD p747.toNat (0, 0, false, 0, 0, 0, false, [])).2.2.2.2.2.2.2)) : List (Int × Int × Bool × Int × Int × Int × Bool × List Int))).bind fun z755 =>
      bif ((decide ((0 : Int) ≤ p747)) && (decide (p747 < (z755.length : Int)))) then
      (f_laws_markIntS ((z755.getD p747.toNat (0, 0, false, 0, 0, 0, false, [])).2.2.2.2.2.2.2) (IntKind.wrap .i64 ((IntKind.wrap .i64 ((IntKind.wrap .i64 ((IntKind.wrap .i64 ((IntKind.wrap .i64 ((IntKind.wrap .i64 ((IntKind.wrap .i64 (p745 + (1 : Int))) + (1 : Int))) + (1 : Int))) + (1 : Int))) + (1 : Int))) + (1 : Int))) + (1 : Int)))).bind fun y756 =>
      (some ((z755.set p747.toNat ((z755.getD p747.toNat (0, 0, false, 0, 0, 0, false, [])).1, (z755.getD p747.toNat (0, 0, false, 0, 0, 0, false, [])).2.1, (z755.getD p747.toNat (0, 0, false, 0, 0, 0, false, [])).2.2.1, (z755.getD p747.toNat (0, 0, false, 0, 0, 0, false, [])).2.2.2.1, (z755.getD p747.toNat (0, 0, false, 0, 0, 0, false, [])).2.2.2.2.1, (z755.getD p747.toNat (0, 0, false, 0, 0, 0, false, [])).2.2.2.2.2.1, (z755.getD p747.toNat (0, 0, false, 0, 0, 0, false, [])).2.2.2.2.2.2.1, y756.2)) : List (Int × Int × Bool × Int × Int × Int × Bool × List Int))).bind fun z757 =>
      f_laws_markPacketS.l0 n y756.1 p746 (IntKind.wrap .i64 (p747 + (1 : Int))) z757
      else none
      else none
      else none
      else none
      else none
      else none
      else none
      else none
    else
      some (p745, p746, p748)
noncomputable def f_laws_markPacketS (x0 : List (Int × Int × Bool × Int × Int × Int × Bool × List Int)) (x1 : Int) : Option (Int × (List (Int × Int × Bool × Int × Int × Int × Bool × List Int))) :=
  (f_laws_markPacketS.l0 N x1 0 0 x0).bind fun r758 =>
  some (r758.1, r758.2.2)
noncomputable def C103 : Con := ⟨[(.I, false, [(.sl R8)]), (.B, false, [(.int .i64)])], [(false, [(.int .i64)])], [(.sl R8), (.int .i64)], [(.int .i64), (.sl R8)], fun (p : (List (Int × Int × Bool × Int × Int × Int × Bool × List Int)) × Int) => f_laws_markPacketS p.1 p.2⟩
noncomputable def f_laws_markPacketS.l0.c : LoopCon := ⟨1000, 6, [0, 1, 4, 5], ⟨[(0, .ref 0 [] none), (1, .int .i64 0), (4, .int .i64 0), (5, .int .i64 0)], [(0, .row R8 [])], 1000⟩, [(.int .i64), (.int .i64), (.int .i64), (.sl R8)], [⟨.exit 0, [1, 4], ⟨[(1, .int .i64 0), (4, .int .i64 0)], [(0, .row R8 [])], 1000⟩, [(.int .i64), (.int .i64), (.sl R8)]⟩], fun (p : Int × Int × Int × (List (Int × Int × Bool × Int × Int × Int × Bool × List Int))) => f_laws_markPacketS.l0 N p.1 p.2.1 p.2.2.1 p.2.2.2⟩
noncomputable abbrev K103 : Cons := [(40, C40)]
noncomputable abbrev L103 : List (Nat × Loops) := [(103, [(2, f_laws_markPacketS.l0.c)])]
abbrev Q103 : List (Nat × List (Int × Nat) × Nat) := []
noncomputable abbrev X103 : Nat → Ctx := ctxOf tb K103 L103 Q103
theorem f_laws_markPacketS.l0.ok : ∀ n p, (fun (p : Int × Int × Int × (List (Int × Int × Bool × Int × Int × Int × Bool × List Int))) => f_laws_markPacketS.l0 n p.1 p.2.1 p.2.2.1 p.2.2.2) p = iterD (roundOf fs X103 6 103 2 false f_laws_markPacketS.l0.c) n p :=
  iter_of (l := fun n => fun (p : Int × Int × Int × (List (Int × Int × Bool × Int × Int × Int × Bool × List Int))) => f_laws_markPacketS.l0 n p.1 p.2.1 p.2.2.1 p.2.2.2) (fun _ => rfl) (fun n p => by kernel_rfl)
theorem E103 : ∀ x, funG fs X103 6 103 C103 x = C103.fn x := fun x => by kernel_rfl
theorem B103 : ConG Tryz.prog 103 C103 := ConG.make FS MIX TY (cons := K103) (L := L103) (ptrs := Q103) ⟨S40, trivial⟩ trivial ⟨⟨⟨N, fun p => f_laws_markPacketS.l0.ok N p⟩, trivial⟩, trivial⟩ rfl (by kernel_rfl) E103
theorem S103 : ConS Tryz.prog 103 C103 := B103.call (by kernel_rfl)
/-! laws.markWorld: function 28 -/
noncomputable def f_laws_markWorld (x0 : Int) (x1 : List (Int × (List (Int × List Int × Bool)) × (List (List Int × Int × List Bool × Bool × Int × Bool × Int × (List (Int × Bool)))) × (List (Int × (List (Int × Int × Bool × List Int)))) × List Int)) (x2 : List (Int × Int × Bool × Int × Int × Int × Bool × List Int)) (x3 : Int) : Option (Int × (List (Int × (List (Int × List Int × Bool)) × (List (List Int × Int × List Bool × Bool × Int × Bool × Int × (List (Int × Bool)))) × (List (Int × (List (Int × Int × Bool × List Int)))) × List Int)) × (List (Int × Int × Bool × Int × Int × Int × Bool × List Int))) :=
  (f_laws_markNodeS x1 x3).bind fun y759 =>
  (some (y759.2 : List (Int × (List (Int × List Int × Bool)) × (List (List Int × Int × List Bool × Bool × Int × Bool × Int × (List (Int × Bool)))) × (List (Int × (List (Int × Int × Bool × List Int)))) × List Int))).bind fun z760 =>
  (f_laws_markPacketS x2 y759.1).bind fun y761 =>
  (some (y761.2 : List (Int × Int × Bool × Int × Int × Int × Bool × List Int))).bind fun z762 =>
  some (y761.1, z760, z762)
noncomputable def C28 : Con := ⟨[(.I, true, [(.int .i64), (.sl R7), (.sl R8)]), (.B, false, [(.int .i64)])], [(false, [(.int .i64)])], [(.int .i64), (.sl R7), (.sl R8), (.int .i64)], [(.int .i64), (.sl R7), (.sl R8)], fun (p : Int × (List (Int × (List (Int × List Int × Bool)) × (List (List Int × Int × List Bool × Bool × Int × Bool × Int × (List (Int × Bool)))) × (List (Int × (List (Int × Int × Bool × List Int)))) × List Int)) × (List (Int × Int × Bool × Int × Int × Int × Bool × List Int)) × Int) => f_laws_markWorld p.1 p.2.1 p.2.2.1 p.2.2.2⟩
noncomputable abbrev K28 : Cons := [(102, C102), (103, C103)]
noncomputable abbrev L28 : List (Nat × Loops) := []
abbrev Q28 : List (Nat × List (Int × Nat) × Nat) := []
noncomputable abbrev X28 : Nat → Ctx := ctxOf tb K28 L28 Q28
theorem E28 : ∀ x, funG fs X28 6 28 C28 x = C28.fn x := fun x => by kernel_rfl
theorem B28 : ConG Tryz.prog 28 C28 := ConG.make FS MIX TY (cons := K28) (L := L28) (ptrs := Q28) ⟨S102, S103, trivial⟩ trivial trivial rfl (by kernel_rfl) E28
theorem S28 : ConS Tryz.prog 28 C28 := B28.call (by kernel_rfl)
/-! laws.heldIntS: function 41 -/
noncomputable def f_laws_heldIntS.l0 : Nat → (List Int) → Int → Int → Int → Option ((Int) ⊕ (Int × Int))
  | 0, _, _, _, _ => none
  | n + 1, p763, p764, p765, p766 =>
    bif (decide (p766 < (p763.length : Int))) then
      bif ((decide ((0 : Int) ≤ p766)) && (decide (p766 < (p763.length : Int)))) then
      bif (!(decide ((p763.getD p766.toNat 0) = p764))) then
        some (.inl (-1))
      else
        f_laws_heldIntS.l0 n p763 (IntKind.wrap .i64 (p764 + (1 : Int))) p765 (IntKind.wrap .i64 (p766 + (1 : Int)))
      else none
    else
      some (.inr (p764, p765))
noncomputable def f_laws_heldIntS (x0 : List Int) (x1 : Int) : Option (Int) :=
  (f_laws_heldIntS.l0 N x0 x1 0 0).bind fun r767 =>
  cs r767 (fun a768 =>
    some a768) (fun b769 =>
    some b769.1)
noncomputable def C41 : Con := ⟨[(.B, false, [(.sl R0)]), (.B, false, [(.int .i64)])], [(false, [(.int .i64)])], [(.sl R0), (.int .i64)], [(.int .i64)], fun (p : List Int × Int) => f_laws_heldIntS p.1 p.2⟩
noncomputable def f_laws_heldIntS.l0.c : LoopCon := ⟨1000, 6, [0, 1, 4, 5], ⟨[(0, .bor none R0 []), (1, .int .i64 0), (4, .int .i64 0), (5, .int .i64 0)], [], 1000⟩, [(.sl R0), (.int .i64), (.int .i64), (.int .i64)], [⟨.ret, [4], ⟨[(4, .int .i64 0)], [], 1000⟩, [(.int .i64)]⟩, ⟨.exit 0, [1, 4], ⟨[(1, .int .i64 0), (4, .int .i64 0)], [], 1000⟩, [(.int .i64), (.int .i64)]⟩], fun (p : List Int × Int × Int × Int) => f_laws_heldIntS.l0 N p.1 p.2.1 p.2.2.1 p.2.2.2⟩
noncomputable abbrev K41 : Cons := []
noncomputable abbrev L41 : List (Nat × Loops) := [(41, [(2, f_laws_heldIntS.l0.c)])]
abbrev Q41 : List (Nat × List (Int × Nat) × Nat) := []
noncomputable abbrev X41 : Nat → Ctx := ctxOf tb K41 L41 Q41
theorem f_laws_heldIntS.l0.ok : ∀ n p, (fun (p : List Int × Int × Int × Int) => f_laws_heldIntS.l0 n p.1 p.2.1 p.2.2.1 p.2.2.2) p = iterD (roundOf fs X41 6 41 2 false f_laws_heldIntS.l0.c) n p :=
  iter_of (l := fun n => fun (p : List Int × Int × Int × Int) => f_laws_heldIntS.l0 n p.1 p.2.1 p.2.2.1 p.2.2.2) (fun _ => rfl) (fun n p => by kernel_rfl)
theorem E41 : ∀ x, funRun fs X41 6 41 C41 x = C41.fn x := fun x => by kernel_rfl
theorem B41 : ConB Tryz.prog 41 C41 := ConB.make FS MIX TY (cons := K41) (L := L41) (ptrs := Q41) trivial trivial ⟨⟨⟨N, fun p => f_laws_heldIntS.l0.ok N p⟩, trivial⟩, trivial⟩ rfl rfl E41
theorem S41 : ConS Tryz.prog 41 C41 := B41.call rfl
/-! laws.FnExactTruth: function 8 -/
noncomputable def f_laws_FnExactTruth (x0 : Int) (x1 : List (Int × (List (Int × List Int × Bool)) × (List (List Int × Int × List Bool × Bool × Int × Bool × Int × (List (Int × Bool)))) × (List (Int × (List (Int × Int × Bool × List Int)))) × List Int)) (x2 : List (Int × Int × Bool × Int × Int × Int × Bool × List Int)) (x3 : Int) : Option (Bool) :=
  (f_laws_szWorld x0 x1 x2 1048576).bind fun y770 =>
  bif (decide (y770 < (0 : Int))) then
    some true
  else
    (f_laws_toWorld x0 x1 x2).bind fun y771 =>
    (f_spec_Truth y771.1 y771.2.1 y771.2.2 x3).bind fun y772 =>
    (f_laws_toWorld x0 x1 x2).bind fun y773 =>
    (f_impl_Truth y773.1 y773.2.1 y773.2.2 x3).bind fun y774 =>
    (f_laws_eqIntS y774 y772).bind fun y775 =>
    bif (!y775) then
      some false
    else
      (f_laws_toWorld x0 x1 x2).bind fun y776 =>
      (f_laws_eqWorld y773.1 y773.2.1 y773.2.2 y776.1 y776.2.1 y776.2.2).bind fun y777 =>
      bif (!y777) then
        some false
      else
        (f_laws_markWorld y773.1 y773.2.1 y773.2.2 1).bind fun y778 =>
        (some (y778.2.1 : List (Int × (List (Int × List Int × Bool)) × (List (List Int × Int × List Bool × Bool × Int × Bool × Int × (List (Int × Bool)))) × (List (Int × (List (Int × Int × Bool × List Int)))) × List Int))).bind fun z779 =>
        (some (y778.2.2 : List (Int × Int × Bool × Int × Int × Int × Bool × List Int))).bind fun z780 =>
        bif (decide (y778.1 < (0 : Int))) then
          some false
        else
          (f_laws_eqIntS y774 y772).bind fun y781 =>
          bif (!y781) then
            some false
          else
            (f_laws_markIntS y774 1).bind fun y782 =>
            (some (y782.2 : List Int)).bind fun z783 =>
            (f_laws_heldIntS z783 1).bind fun y784 =>
            bif (decide (y784 < (0 : Int))) then
              some false
            else
              bif (!(decide (y784 = y782.1))) then
                some false
              else
                (f_laws_toWorld x0 x1 x2).bind fun y785 =>
                (f_impl_Truth y785.1 y785.2.1 y785.2.2 x3).bind fun y786 =>
                (f_laws_eqIntS y786 y772).bind fun y787 =>
                bif (!y787) then
                  some false
                else
                  (f_laws_heldIntS z783 1).bind fun y788 =>
                  bif (decide (y788 < (0 : Int))) then
                    some false
                  else
                    bif (!(decide (y788 = y782.1))) then
                      some false
                    else
                      some true
noncomputable def C8 : Con := ⟨[(.B, true, [(.int .i64), (.sl R7), (.sl R8)]), (.B, false, [(.int .i64)])], [(false, [.bool])], [(.int .i64), (.sl R7), (.sl R8), (.int .i64)], [.bool], fun (p : Int × (List (Int × (List (Int × List Int × Bool)) × (List (List Int × Int × List Bool × Bool × Int × Bool × Int × (List (Int × Bool)))) × (List (Int × (List (Int × Int × Bool × List Int)))) × List Int)) × (List (Int × Int × Bool × Int × Int × Int × Bool × List Int)) × Int) => f_laws_FnExactTruth p.1 p.2.1 p.2.2.1 p.2.2.2⟩
noncomputable abbrev K8 : Cons := [(11, C11), (13, C13), (15, C15), (28, C28), (33, C33), (38, C38), (39, C39), (40, C40), (41, C41)]
noncomputable abbrev L8 : List (Nat × Loops) := []
abbrev Q8 : List (Nat × List (Int × Nat) × Nat) := []
noncomputable abbrev X8 : Nat → Ctx := ctxOf tb K8 L8 Q8
theorem E8 : ∀ x, funRun fs X8 6 8 C8 x = C8.fn x := fun x => by kernel_rfl
theorem B8 : ConB Tryz.prog 8 C8 := ConB.make FS MIX TY (cons := K8) (L := L8) (ptrs := Q8) ⟨S11, S13, S15, S28, S33, S38, S39, S40, S41, trivial⟩ trivial trivial rfl rfl E8
theorem S8 : ConS Tryz.prog 8 C8 := B8.call rfl
/-- What is left: the plain law. -/
def Pure : Prop := ∀ x : Tup [(.int .i64), (.sl R7), (.sl R8), (.int .i64)], WfT [(.int .i64), (.sl R7), (.sl R8), (.int .i64)] x → C8.fn x = some (true : Bool)
end
end Go.Abs
