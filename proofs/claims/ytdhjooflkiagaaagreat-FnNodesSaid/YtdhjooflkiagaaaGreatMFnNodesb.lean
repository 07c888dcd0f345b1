import Derived.Test.YtdhjooflkiagaaaGreatProg
import Derived.Test.YtdhjooflkiagaaaGreatAbtD
import Derived.KernelRfl
import Derived.Test.YtdhjooflkiagaaaGreatMFnNodesa
namespace Go.Abs
open Go.Proofs
set_option linter.unusedVariables false
set_option maxRecDepth 100000
noncomputable section
noncomputable def f_spec_l4Draw.l0 : Nat → (List Int) → Int → Int → Int → Bool → Int → Bool → Int → Int → Bool → Int → Bool → Int → (List Int) → (List Bool) → tyW → (List Int) → (List Bool) → tyW → Option (List Int × Int × Int × Int × Bool × Int × Bool × Int × Int × Bool × Int × Bool × Int × List Int × List Bool × tyW × List Int × List Bool × tyW)
 | 0, _, _, _, _, _, _, _, _, _, _, _, _, _, _, _, _, _, _, _ => none
 | n + 1, p0, p1, p2, p3, p4, p5, p6, p7, p8, p9, p10, p11, p12, p13, p14, p15, p16, p17, p18 =>
 (f_spec_l1Below p0 p1 p2 2).bind fun y19 =>
 bif (decide ((p18.length : Int) < (IntKind.wrap .i64 ((12 : Int) + y19.1)))) then
 bif (Nat.blt (p18.length + ([(0, false)] : tyW).length) 8796093022208) then
 (some ((p18 ++ ([(0, false)] : tyW)) : tyW)).bind fun z20 =>
 f_spec_l4Draw.l0 n p0 y19.2.1 y19.2.2 p3 p4 p5 p6 p7 p8 p9 p10 p11 p12 p13 p14 p15 p16 p17 z20
 else none
 else
 some (p0, y19.2.1, y19.2.2, p3, p4, p5, p6, p7, p8, p9, p10, p11, p12, p13, p14, p15, p16, p17, p18)
noncomputable def f_spec_l4Draw (x0 : List Int) (x1 : Int) (x2 : Int) : Option (List Int × Int × List Bool × Bool × Int × Bool × Int × tyW × Int × Int) :=
 (f_spec_l4DrawRight x0 x1 x2).bind fun y0 =>
 (f_spec_l1Below x0 y0.2.2.2.2.2.2.2.2.1 y0.2.2.2.2.2.2.2.2.2 15).bind fun y1 =>
 bif (decide (y1.1 = (0 : Int))) then
 (f_spec_l1PickInt x0 y1.2.1 y1.2.2 ([-2, -1, 2, 3] : List Int)).bind fun y2 =>
 some (y0.1, y2.1, y0.2.2.1, y0.2.2.2.1, y0.2.2.2.2.1, y0.2.2.2.2.2.1, y0.2.2.2.2.2.2.1, y0.2.2.2.2.2.2.2.1, y2.2.1, y2.2.2)
 else
 bif (decide (y1.1 = (1 : Int))) then
 (f_spec_l1PickInt x0 y1.2.1 y1.2.2 ([-1, 0, 1, 4] : List Int)).bind fun y3 =>
 some (y0.1, y0.2.1, y0.2.2.1, y0.2.2.2.1, y0.2.2.2.2.1, y0.2.2.2.2.2.1, y3.1, y0.2.2.2.2.2.2.2.1, y3.2.1, y3.2.2)
 else
 bif (decide (y1.1 = (2 : Int))) then
 bif (Nat.blt (y0.2.2.1.length + ([true] : List Bool).length) 140737488355328) then
 (some ((y0.2.2.1 ++ ([true] : List Bool)) : List Bool)).bind fun z4 =>
 some (y0.1, y0.2.1, z4, y0.2.2.2.1, y0.2.2.2.2.1, y0.2.2.2.2.2.1, y0.2.2.2.2.2.2.1, y0.2.2.2.2.2.2.2.1, y1.2.1, y1.2.2)
 else none
 else
 bif (decide (y1.1 = (3 : Int))) then
 (f_spec_l1Below x0 y1.2.1 y1.2.2 5).bind fun y5 =>
 bif (Nat.blt (y0.2.2.2.2.2.2.2.1.length + ([(y5.1, false)] : tyW).length) 8796093022208) then
 (some ((y0.2.2.2.2.2.2.2.1 ++ ([(y5.1, false)] : tyW)) : tyW)).bind fun z6 =>
 some (y0.1, y0.2.1, y0.2.2.1, y0.2.2.2.1, y0.2.2.2.2.1, y0.2.2.2.2.2.1, y0.2.2.2.2.2.2.1, z6, y5.2.1, y5.2.2)
 else none
 else
 bif (decide (y1.1 = (4 : Int))) then
 some (y0.1, y0.2.1, y0.2.2.1, (!y0.2.2.2.1), y0.2.2.2.2.1, y0.2.2.2.2.2.1, y0.2.2.2.2.2.2.1, y0.2.2.2.2.2.2.2.1, y1.2.1, y1.2.2)
 else
 bif (decide (y1.1 = (5 : Int))) then
 (f_spec_l4Draw.l0 N x0 y1.2.1 y1.2.2 0 false 0 false 0 y0.2.1 y0.2.2.2.1 y0.2.2.2.2.1 y0.2.2.2.2.2.1 y0.2.2.2.2.2.2.1 ([] : List Int) ([] : List Bool) ([] : tyW) y0.1 y0.2.2.1 y0.2.2.2.2.2.2.2.1).bind fun r7 =>
 some (r7.2.2.2.2.2.2.2.2.2.2.2.2.2.2.2.2.1, r7.2.2.2.2.2.2.2.2.1, r7.2.2.2.2.2.2.2.2.2.2.2.2.2.2.2.2.2.1, r7.2.2.2.2.2.2.2.2.2.1, r7.2.2.2.2.2.2.2.2.2.2.1, r7.2.2.2.2.2.2.2.2.2.2.2.1, r7.2.2.2.2.2.2.2.2.2.2.2.2.1, r7.2.2.2.2.2.2.2.2.2.2.2.2.2.2.2.2.2.2, r7.2.1, r7.2.2.1)
 else
 some (y0.1, y0.2.1, y0.2.2.1, y0.2.2.2.1, y0.2.2.2.2.1, y0.2.2.2.2.2.1, y0.2.2.2.2.2.2.1, y0.2.2.2.2.2.2.2.1, y1.2.1, y1.2.2)
noncomputable def C174 : Con := ⟨[(.P [false, true, true], false, [(.sl R0), iI, iI])], [(true, [(.sl R1), iI, (.sl R2), .bool, iI, .bool, iI, (.sl R3)])], [(.sl R0), iI, iI], [(.sl R1), iI, (.sl R2), .bool, iI, .bool, iI, (.sl R3), iI, iI], fun (p : List Int × Int × Int) => f_spec_l4Draw p.1 p.2.1 p.2.2⟩
noncomputable abbrev f_spec_l4Draw.l0.u (n : Nat) := fun (p : List Int × Int × Int × Int × Bool × Int × Bool × Int × Int × Bool × Int × Bool × Int × List Int × List Bool × tyW × List Int × List Bool × tyW) => f_spec_l4Draw.l0 n p.1 p.2.1 p.2.2.1 p.2.2.2.1 p.2.2.2.2.1 p.2.2.2.2.2.1 p.2.2.2.2.2.2.1 p.2.2.2.2.2.2.2.1 p.2.2.2.2.2.2.2.2.1 p.2.2.2.2.2.2.2.2.2.1 p.2.2.2.2.2.2.2.2.2.2.1 p.2.2.2.2.2.2.2.2.2.2.2.1 p.2.2.2.2.2.2.2.2.2.2.2.2.1 p.2.2.2.2.2.2.2.2.2.2.2.2.2.1 p.2.2.2.2.2.2.2.2.2.2.2.2.2.2.1 p.2.2.2.2.2.2.2.2.2.2.2.2.2.2.2.1 p.2.2.2.2.2.2.2.2.2.2.2.2.2.2.2.2.1 p.2.2.2.2.2.2.2.2.2.2.2.2.2.2.2.2.2.1 p.2.2.2.2.2.2.2.2.2.2.2.2.2.2.2.2.2.2
noncomputable def f_spec_l4Draw.l0.c : LoopCon := ⟨1000, 6, [0, 2, 3], ⟨[(0, .ptr 500 0), (2, .ptr 1000 0), (3, .ptr 1001 0)], [(500, .box [.bor (some 0) R0 [], i0, i0]), (1000, .box [.ref 1002 [] none, i0, .ref 1003 [] none, .bool false, i0, .bool false, i0, .ref 1004 [] none]), (1001, .box [.ref 1005 [] none, i0, .ref 1006 [] none, .bool false, i0, .bool false, i0, .ref 1007 [] none]), (1002, .row R1 []), (1003, .row R2 []), (1004, .row R3 []), (1005, .row R1 []), (1006, .row R2 []), (1007, .row R3 [])], 1008⟩, [(.sl R0), iI, iI, iI, .bool, iI, .bool, iI, iI, .bool, iI, .bool, iI, (.sl R1), (.sl R2), (.sl R3), (.sl R1), (.sl R2), (.sl R3)], [⟨.exit 1, [2, 3], ⟨[(2, .ptr 1000 0), (3, .ptr 1001 0)], [(500, .box [.bor (some 0) R0 [], i0, i0]), (1000, .box [.ref 1002 [] none, i0, .ref 1003 [] none, .bool false, i0, .bool false, i0, .ref 1004 [] none]), (1001, .box [.ref 1005 [] none, i0, .ref 1006 [] none, .bool false, i0, .bool false, i0, .ref 1007 [] none]), (1002, .row R1 []), (1003, .row R2 []), (1004, .row R3 []), (1005, .row R1 []), (1006, .row R2 []), (1007, .row R3 [])], 1008⟩, [(.sl R0), iI, iI, iI, .bool, iI, .bool, iI, iI, .bool, iI, .bool, iI, (.sl R1), (.sl R2), (.sl R3), (.sl R1), (.sl R2), (.sl R3)]⟩], f_spec_l4Draw.l0.u N⟩
noncomputable abbrev K174 : Cons := [(106, C106), (176, C176), (208, C208)]
noncomputable abbrev L174 : List (Nat × Loops) := [(174, [(14, f_spec_l4Draw.l0.c)])]
abbrev Q174 : List (Nat × List (Int × Nat) × Nat) := []
noncomputable abbrev X174 : Nat → Ctx := ctxOf tb K174 L174 Q174
theorem f_spec_l4Draw.l0.ok : ∀ n p, f_spec_l4Draw.l0.u n p = iterD (roundOf fs X174 6 174 14 false f_spec_l4Draw.l0.c) n p :=
 iter_of (l := f_spec_l4Draw.l0.u) (fun _ => rfl) (fun n p => by kernel_rfl)
theorem E174 : ∀ x, funG fs X174 6 174 C174 x = C174.fn x := fun x => by kernel_rfl
theorem B174 : ConG Tryz.prog 174 C174 := ConG.make FS MIX TY (cons := K174) (L := L174) (ptrs := Q174) ⟨S106, S176, S208, trivial⟩ trivial ⟨⟨⟨N, fun p => f_spec_l4Draw.l0.ok N p⟩, trivial⟩, trivial⟩ rfl (by kernel_rfl) E174
theorem S174 : ConS Tryz.prog 174 C174 := B174.call (by kernel_rfl)
noncomputable def f_spec_l1DrawRight (x0 : List Int) (x1 : Int) (x2 : Int) : Option (Int × Int × Bool × List Int × Int × Int) :=
 (f_spec_l1Below x0 x1 x2 7).bind fun y0 =>
 (f_spec_l1Below x0 y0.2.1 y0.2.2 6).bind fun y1 =>
 bif (decide ((IntKind.wrap .i64 ((1 : Int) + y0.1)) = (3 : Int))) then
 (f_spec_l1Once x0 y1.2.1 y1.2.2 2).bind fun y2 =>
 bif (decide ((IntKind.wrap .i64 ((1 : Int) + y0.1)) = (3 : Int))) then
 (f_spec_l1DrawList x0 y2.2.1 y2.2.2).bind fun y3 =>
 some ((IntKind.wrap .i64 ((1 : Int) + y0.1)), y1.1, y2.1, y3.1, y3.2.1, y3.2.2)
 else
 bif (decide ((IntKind.wrap .i64 ((1 : Int) + y0.1)) = (7 : Int))) then
 (f_spec_l1DrawList x0 y2.2.1 y2.2.2).bind fun y4 =>
 some ((IntKind.wrap .i64 ((1 : Int) + y0.1)), y1.1, y2.1, y4.1, y4.2.1, y4.2.2)
 else
 some ((IntKind.wrap .i64 ((1 : Int) + y0.1)), y1.1, y2.1, [], y2.2.1, y2.2.2)
 else
 bif (decide ((IntKind.wrap .i64 ((1 : Int) + y0.1)) = (6 : Int))) then
 (f_spec_l1Once x0 y1.2.1 y1.2.2 2).bind fun y5 =>
 bif (decide ((IntKind.wrap .i64 ((1 : Int) + y0.1)) = (3 : Int))) then
 (f_spec_l1DrawList x0 y5.2.1 y5.2.2).bind fun y6 =>
 some ((IntKind.wrap .i64 ((1 : Int) + y0.1)), y1.1, y5.1, y6.1, y6.2.1, y6.2.2)
 else
 bif (decide ((IntKind.wrap .i64 ((1 : Int) + y0.1)) = (7 : Int))) then
 (f_spec_l1DrawList x0 y5.2.1 y5.2.2).bind fun y7 =>
 some ((IntKind.wrap .i64 ((1 : Int) + y0.1)), y1.1, y5.1, y7.1, y7.2.1, y7.2.2)
 else
 some ((IntKind.wrap .i64 ((1 : Int) + y0.1)), y1.1, y5.1, [], y5.2.1, y5.2.2)
 else
 bif (decide ((IntKind.wrap .i64 ((1 : Int) + y0.1)) = (3 : Int))) then
 (f_spec_l1DrawList x0 y1.2.1 y1.2.2).bind fun y8 =>
 some ((IntKind.wrap .i64 ((1 : Int) + y0.1)), y1.1, false, y8.1, y8.2.1, y8.2.2)
 else
 bif (decide ((IntKind.wrap .i64 ((1 : Int) + y0.1)) = (7 : Int))) then
 (f_spec_l1DrawList x0 y1.2.1 y1.2.2).bind fun y9 =>
 some ((IntKind.wrap .i64 ((1 : Int) + y0.1)), y1.1, false, y9.1, y9.2.1, y9.2.2)
 else
 some ((IntKind.wrap .i64 ((1 : Int) + y0.1)), y1.1, false, [], y1.2.1, y1.2.2)
noncomputable def C178 : Con := ⟨[(.P [false, true, true], false, [(.sl R0), iI, iI])], [(true, [iI, iI, .bool, (.sl R1)])], [(.sl R0), iI, iI], [iI, iI, .bool, (.sl R1), iI, iI], fun (p : List Int × Int × Int) => f_spec_l1DrawRight p.1 p.2.1 p.2.2⟩
noncomputable abbrev K178 : Cons := [(106, C106), (109, C109), (209, C209)]
noncomputable abbrev L178 : List (Nat × Loops) := []
abbrev Q178 : List (Nat × List (Int × Nat) × Nat) := []
noncomputable abbrev X178 : Nat → Ctx := ctxOf tb K178 L178 Q178
theorem E178 : ∀ x, funG fs X178 6 178 C178 x = C178.fn x := fun x => by kernel_rfl
theorem B178 : ConG Tryz.prog 178 C178 := ConG.make FS MIX TY (cons := K178) (L := L178) (ptrs := Q178) ⟨S106, S109, S209, trivial⟩ trivial trivial rfl (by kernel_rfl) E178
theorem S178 : ConS Tryz.prog 178 C178 := B178.call (by kernel_rfl)
noncomputable def f_spec_l1Draw (x0 : List Int) (x1 : Int) (x2 : Int) : Option (Int × Int × Bool × List Int × Int × Int) :=
 (f_spec_l1DrawRight x0 x1 x2).bind fun y0 =>
 (f_spec_l1Below x0 y0.2.2.2.2.1 y0.2.2.2.2.2 12).bind fun y1 =>
 bif (decide (y1.1 = (0 : Int))) then
 (f_spec_l1Below x0 y1.2.1 y1.2.2 9).bind fun y2 =>
 some (y2.1, y0.2.1, y0.2.2.1, y0.2.2.2.1, y2.2.1, y2.2.2)
 else
 bif (decide (y1.1 = (1 : Int))) then
 (f_spec_l1PickInt x0 y1.2.1 y1.2.2 ([-1, 6] : List Int)).bind fun y3 =>
 some (y0.1, y3.1, y0.2.2.1, y0.2.2.2.1, y3.2.1, y3.2.2)
 else
 bif (decide (y1.1 = (2 : Int))) then
 some (y0.1, y0.2.1, (!y0.2.2.1), y0.2.2.2.1, y1.2.1, y1.2.2)
 else
 bif (decide (y1.1 = (3 : Int))) then
 (f_spec_l1PickInt x0 y1.2.1 y1.2.2 ([-1, 3, 65536] : List Int)).bind fun y4 =>
 bif (Nat.blt (y0.2.2.2.1.length + ([y4.1] : List Int).length) 17592186044416) then
 (some ((y0.2.2.2.1 ++ ([y4.1] : List Int)) : List Int)).bind fun z5 =>
 some (y0.1, y0.2.1, y0.2.2.1, z5, y4.2.1, y4.2.2)
 else none
 else
 some (y0.1, y0.2.1, y0.2.2.1, y0.2.2.2.1, y1.2.1, y1.2.2)
noncomputable def C108 : Con := ⟨[(.P [false, true, true], false, [(.sl R0), iI, iI])], [(true, [iI, iI, .bool, (.sl R1)])], [(.sl R0), iI, iI], [iI, iI, .bool, (.sl R1), iI, iI], fun (p : List Int × Int × Int) => f_spec_l1Draw p.1 p.2.1 p.2.2⟩
noncomputable abbrev K108 : Cons := [(106, C106), (176, C176), (178, C178)]
noncomputable abbrev L108 : List (Nat × Loops) := []
abbrev Q108 : List (Nat × List (Int × Nat) × Nat) := []
noncomputable abbrev X108 : Nat → Ctx := ctxOf tb K108 L108 Q108
theorem E108 : ∀ x, funG fs X108 6 108 C108 x = C108.fn x := fun x => by kernel_rfl
theorem B108 : ConG Tryz.prog 108 C108 := ConG.make FS MIX TY (cons := K108) (L := L108) (ptrs := Q108) ⟨S106, S176, S178, trivial⟩ trivial trivial rfl (by kernel_rfl) E108
theorem S108 : ConS Tryz.prog 108 C108 := B108.call (by kernel_rfl)
noncomputable def f_spec_l2Draw.l1 : Nat → (List Int) → Int → Int → Int → Int → tyM → tyM → Option (List Int × Int × Int × Int × Int × tyM × tyM)
 | 0, _, _, _, _, _, _, _ => none
 | n + 1, p0, p1, p2, p3, p4, p5, p6 =>
 (f_spec_l1Below p0 p1 p2 2).bind fun y7 =>
 bif (decide ((p6.length : Int) < (IntKind.wrap .i64 ((30 : Int) + y7.1)))) then
 bif (Nat.blt (p6.length + ([(5, 0, false, [])] : tyM).length) 2932031007402) then
 (some ((p6 ++ ([(5, 0, false, [])] : tyM)) : tyM)).bind fun z8 =>
 f_spec_l2Draw.l1 n p0 y7.2.1 y7.2.2 p3 p4 p5 z8
 else none
 else
 some (p0, y7.2.1, y7.2.2, p3, p4, p5, p6)
noncomputable def f_spec_l2Draw.l0 : Nat → Int → (List Int) → Int → Int → Int → Int → tyM → tyM → Option (List Int × Int × Int × Int × Int × tyM × tyM)
 | 0, _, _, _, _, _, _, _, _ => none
 | n + 1, p0, p1, p2, p3, p4, p5, p6, p7 =>
 (f_spec_l1Below p1 p2 p3 5).bind fun y8 =>
 bif (decide (p0 < y8.1)) then
 (f_spec_l1DrawRight p1 y8.2.1 y8.2.2).bind fun y9 =>
 bif (Nat.blt (p7.length + ([(y9.1, y9.2.1, y9.2.2.1, y9.2.2.2.1)] : tyM).length) 2932031007402) then
 (some ((p7 ++ ([(y9.1, y9.2.1, y9.2.2.1, y9.2.2.2.1)] : tyM)) : tyM)).bind fun z10 =>
 f_spec_l2Draw.l0 n (IntKind.wrap .i64 (p0 + (1 : Int))) p1 y9.2.2.2.2.1 y9.2.2.2.2.2 p4 p5 p6 z10
 else none
 else
 some (p1, y8.2.1, y8.2.2, p4, p5, p6, p7)
noncomputable def f_spec_l2Draw (x0 : List Int) (x1 : Int) (x2 : Int) : Option (Int × tyM × Int × Int) :=
 (f_spec_l1PickInt x0 x1 x2 ([0, 0, 3, 50] : List Int)).bind fun y0 =>
 (f_spec_l2Draw.l0 N 0 x0 y0.2.1 y0.2.2 0 y0.1 ([] : tyM) ([] : tyM)).bind fun r1 =>
 (f_spec_l1Below r1.1 r1.2.1 r1.2.2.1 12).bind fun y2 =>
 bif (decide (y2.1 = (0 : Int))) then
 (f_spec_l1PickInt r1.1 y2.2.1 y2.2.2 ([-1, 100000, 99998, 100001] : List Int)).bind fun y3 =>
 some (y3.1, r1.2.2.2.2.2.2, y3.2.1, y3.2.2)
 else
 bif (decide (y2.1 = (1 : Int))) then
 (f_spec_l1Draw r1.1 y2.2.1 y2.2.2).bind fun y4 =>
 bif (Nat.blt (r1.2.2.2.2.2.2.length + ([(y4.1, y4.2.1, y4.2.2.1, y4.2.2.2.1)] : tyM).length) 2932031007402) then
 (some ((r1.2.2.2.2.2.2 ++ ([(y4.1, y4.2.1, y4.2.2.1, y4.2.2.2.1)] : tyM)) : tyM)).bind fun z5 =>
 some (r1.2.2.2.2.1, z5, y4.2.2.2.2.1, y4.2.2.2.2.2)
 else none
 else
 bif (decide (y2.1 = (2 : Int))) then
 (f_spec_l2Draw.l1 N r1.1 y2.2.1 y2.2.2 r1.2.2.2.1 r1.2.2.2.2.1 r1.2.2.2.2.2.1 r1.2.2.2.2.2.2).bind fun r6 =>
 some (r6.2.2.2.2.1, r6.2.2.2.2.2.2, r6.2.1, r6.2.2.1)
 else
 some (r1.2.2.2.2.1, r1.2.2.2.2.2.2, y2.2.1, y2.2.2)
noncomputable def C177 : Con := ⟨[(.P [false, true, true], false, [(.sl R0), iI, iI])], [(true, [iI, (.sl R6)])], [(.sl R0), iI, iI], [iI, (.sl R6), iI, iI], fun (p : List Int × Int × Int) => f_spec_l2Draw p.1 p.2.1 p.2.2⟩
noncomputable abbrev f_spec_l2Draw.l0.u (n : Nat) := fun (p : Int × List Int × Int × Int × Int × Int × tyM × tyM) => f_spec_l2Draw.l0 n p.1 p.2.1 p.2.2.1 p.2.2.2.1 p.2.2.2.2.1 p.2.2.2.2.2.1 p.2.2.2.2.2.2.1 p.2.2.2.2.2.2.2
noncomputable def f_spec_l2Draw.l0.c : LoopCon := ⟨1000, 6, [0, 2, 3, 4], ⟨[(0, .ptr 500 0), (2, .ptr 1000 0), (3, .ptr 1001 0), (4, i0)], [(500, .box [.bor (some 0) R0 [], i0, i0]), (1000, .box [i0, .ref 1002 [] none]), (1001, .box [i0, .ref 1003 [] none]), (1002, .row R6 []), (1003, .row R6 [])], 1004⟩, [iI, (.sl R0), iI, iI, iI, iI, (.sl R6), (.sl R6)], [⟨.exit 0, [0, 2, 3], ⟨[(0, .ptr 500 0), (2, .ptr 1000 0), (3, .ptr 1001 0)], [(500, .box [.bor (some 0) R0 [], i0, i0]), (1000, .box [i0, .ref 1002 [] none]), (1001, .box [i0, .ref 1003 [] none]), (1002, .row R6 []), (1003, .row R6 [])], 1004⟩, [(.sl R0), iI, iI, iI, iI, (.sl R6), (.sl R6)]⟩], f_spec_l2Draw.l0.u N⟩
noncomputable abbrev f_spec_l2Draw.l1.u (n : Nat) := fun (p : List Int × Int × Int × Int × Int × tyM × tyM) => f_spec_l2Draw.l1 n p.1 p.2.1 p.2.2.1 p.2.2.2.1 p.2.2.2.2.1 p.2.2.2.2.2.1 p.2.2.2.2.2.2
noncomputable def f_spec_l2Draw.l1.c : LoopCon := ⟨1000, 6, [0, 2, 3], ⟨[(0, .ptr 500 0), (2, .ptr 1000 0), (3, .ptr 1001 0)], [(500, .box [.bor (some 0) R0 [], i0, i0]), (1000, .box [i0, .ref 1002 [] none]), (1001, .box [i0, .ref 1003 [] none]), (1002, .row R6 []), (1003, .row R6 [])], 1004⟩, [(.sl R0), iI, iI, iI, iI, (.sl R6), (.sl R6)], [⟨.exit 3, [2, 3], ⟨[(2, .ptr 1000 0), (3, .ptr 1001 0)], [(500, .box [.bor (some 0) R0 [], i0, i0]), (1000, .box [i0, .ref 1002 [] none]), (1001, .box [i0, .ref 1003 [] none]), (1002, .row R6 []), (1003, .row R6 [])], 1004⟩, [(.sl R0), iI, iI, iI, iI, (.sl R6), (.sl R6)]⟩], f_spec_l2Draw.l1.u N⟩
noncomputable abbrev K177 : Cons := [(106, C106), (108, C108), (176, C176), (178, C178)]
noncomputable abbrev L177 : List (Nat × Loops) := [(177, [(3, f_spec_l2Draw.l0.c), (12, f_spec_l2Draw.l1.c)])]
abbrev Q177 : List (Nat × List (Int × Nat) × Nat) := []
noncomputable abbrev X177 : Nat → Ctx := ctxOf tb K177 L177 Q177
theorem f_spec_l2Draw.l0.ok : ∀ n p, f_spec_l2Draw.l0.u n p = iterD (roundOf fs X177 6 177 3 false f_spec_l2Draw.l0.c) n p :=
 iter_of (l := f_spec_l2Draw.l0.u) (fun _ => rfl) (fun n p => by kernel_rfl)
theorem f_spec_l2Draw.l1.ok : ∀ n p, f_spec_l2Draw.l1.u n p = iterD (roundOf fs X177 6 177 12 false f_spec_l2Draw.l1.c) n p :=
 iter_of (l := f_spec_l2Draw.l1.u) (fun _ => rfl) (fun n p => by kernel_rfl)
theorem E177 : ∀ x, funG fs X177 6 177 C177 x = C177.fn x := fun x => by kernel_rfl
theorem B177 : ConG Tryz.prog 177 C177 := ConG.make FS MIX TY (cons := K177) (L := L177) (ptrs := Q177) ⟨S106, S108, S176, S178, trivial⟩ trivial ⟨⟨⟨N, fun p => f_spec_l2Draw.l0.ok N p⟩, ⟨N, fun p => f_spec_l2Draw.l1.ok N p⟩, trivial⟩, trivial⟩ rfl (by kernel_rfl) E177
theorem S177 : ConS Tryz.prog 177 C177 := B177.call (by kernel_rfl)
noncomputable def f_spec_l5Draw (x0 : List Int) (x1 : Int) (x2 : Int) : Option (Int × tyF × tyH × tyS × List Int × Int × Int × Int) :=
 (f_spec_l6DrawRight x0 x1 x2).bind fun y0 =>
 (f_spec_l1Below x0 y0.2.2.2.1 y0.2.2.2.2 y0.1).bind fun y1 =>
 bif ((decide ((0 : Int) ≤ y1.1)) && (decide (y1.1 < (y0.2.1.length : Int)))) then
 (f_spec_l1Below x0 y1.2.1 y1.2.2 15).bind fun y2 =>
 bif (decide (y2.1 = (0 : Int))) then
 (f_spec_l1PickInt x0 y2.2.1 y2.2.2 ([-1, 3, 0] : List Int)).bind fun y3 =>
 bif ((decide (y1.1 ≤ y1.1)) && (decide (y1.1 < (y1.1 + (1 : Int))))) then
 bif ((decide (y1.1 ≤ y1.1)) && (decide (y1.1 < (y1.1 + (1 : Int))))) then
 bif ((decide (y1.1 ≤ y1.1)) && (decide (y1.1 < (y1.1 + (1 : Int))))) then
 some (y3.1, (y0.2.1.getD y1.1.toNat (0, [], [], [], [])).2.1, (y0.2.1.getD y1.1.toNat (0, [], [], [], [])).2.2.1, (y0.2.1.getD y1.1.toNat (0, [], [], [], [])).2.2.2.1, (y0.2.1.getD y1.1.toNat (0, [], [], [], [])).2.2.2.2, y0.1, y3.2.1, y3.2.2)
 else none
 else none
 else none
 else
 bif (decide (y2.1 = (1 : Int))) then
 (f_spec_l3Draw x0 y2.2.1 y2.2.2).bind fun y4 =>
 bif (decide ((0 : Int) < (((y0.2.1.getD y1.1.toNat (0, [], [], [], [])).2.1).length : Int))) then
 (some ((y0.2.1.set y1.1.toNat ((y0.2.1.getD y1.1.toNat (0, [], [], [], [])).1, (((y0.2.1.getD y1.1.toNat (0, [], [], [], [])).2.1).set 0 (y4.1, y4.2.1, y4.2.2.1)), (y0.2.1.getD y1.1.toNat (0, [], [], [], [])).2.2.1, (y0.2.1.getD y1.1.toNat (0, [], [], [], [])).2.2.2.1, (y0.2.1.getD y1.1.toNat (0, [], [], [], [])).2.2.2.2)) : tyN)).bind fun z5 =>
 bif ((decide (y1.1 ≤ y1.1)) && (decide (y1.1 < (y1.1 + (1 : Int))))) then
 bif ((decide (y1.1 ≤ y1.1)) && (decide (y1.1 < (y1.1 + (1 : Int))))) then
 bif ((decide (y1.1 ≤ y1.1)) && (decide (y1.1 < (y1.1 + (1 : Int))))) then
 some ((y0.2.1.getD y1.1.toNat (0, [], [], [], [])).1, (z5.getD y1.1.toNat (0, [], [], [], [])).2.1, (z5.getD y1.1.toNat (0, [], [], [], [])).2.2.1, (z5.getD y1.1.toNat (0, [], [], [], [])).2.2.2.1, (z5.getD y1.1.toNat (0, [], [], [], [])).2.2.2.2, y0.1, y4.2.2.2.1, y4.2.2.2.2)
 else none
 else none
 else none
 else none
 else
 bif (decide (y2.1 = (2 : Int))) then
 (f_spec_l4Draw x0 y2.2.1 y2.2.2).bind fun y6 =>
 bif (decide ((1 : Int) < (((y0.2.1.getD y1.1.toNat (0, [], [], [], [])).2.2.1).length : Int))) then
 (some ((y0.2.1.set y1.1.toNat ((y0.2.1.getD y1.1.toNat (0, [], [], [], [])).1, (y0.2.1.getD y1.1.toNat (0, [], [], [], [])).2.1, (((y0.2.1.getD y1.1.toNat (0, [], [], [], [])).2.2.1).set 1 (y6.1, y6.2.1, y6.2.2.1, y6.2.2.2.1, y6.2.2.2.2.1, y6.2.2.2.2.2.1, y6.2.2.2.2.2.2.1, y6.2.2.2.2.2.2.2.1)), (y0.2.1.getD y1.1.toNat (0, [], [], [], [])).2.2.2.1, (y0.2.1.getD y1.1.toNat (0, [], [], [], [])).2.2.2.2)) : tyN)).bind fun z7 =>
 bif ((decide (y1.1 ≤ y1.1)) && (decide (y1.1 < (y1.1 + (1 : Int))))) then
 bif ((decide (y1.1 ≤ y1.1)) && (decide (y1.1 < (y1.1 + (1 : Int))))) then
 bif ((decide (y1.1 ≤ y1.1)) && (decide (y1.1 < (y1.1 + (1 : Int))))) then
 some ((y0.2.1.getD y1.1.toNat (0, [], [], [], [])).1, (z7.getD y1.1.toNat (0, [], [], [], [])).2.1, (z7.getD y1.1.toNat (0, [], [], [], [])).2.2.1, (z7.getD y1.1.toNat (0, [], [], [], [])).2.2.2.1, (z7.getD y1.1.toNat (0, [], [], [], [])).2.2.2.2, y0.1, y6.2.2.2.2.2.2.2.2.1, y6.2.2.2.2.2.2.2.2.2)
 else none
 else none
 else none
 else none
 else
 bif (decide (y2.1 = (3 : Int))) then
 (f_spec_l2Draw x0 y2.2.1 y2.2.2).bind fun y8 =>
 bif (decide ((0 : Int) < (((y0.2.1.getD y1.1.toNat (0, [], [], [], [])).2.2.2.1).length : Int))) then
 (some ((y0.2.1.set y1.1.toNat ((y0.2.1.getD y1.1.toNat (0, [], [], [], [])).1, (y0.2.1.getD y1.1.toNat (0, [], [], [], [])).2.1, (y0.2.1.getD y1.1.toNat (0, [], [], [], [])).2.2.1, (((y0.2.1.getD y1.1.toNat (0, [], [], [], [])).2.2.2.1).set 0 (y8.1, y8.2.1)), (y0.2.1.getD y1.1.toNat (0, [], [], [], [])).2.2.2.2)) : tyN)).bind fun z9 =>
 bif ((decide (y1.1 ≤ y1.1)) && (decide (y1.1 < (y1.1 + (1 : Int))))) then
 bif ((decide (y1.1 ≤ y1.1)) && (decide (y1.1 < (y1.1 + (1 : Int))))) then
 bif ((decide (y1.1 ≤ y1.1)) && (decide (y1.1 < (y1.1 + (1 : Int))))) then
 some ((y0.2.1.getD y1.1.toNat (0, [], [], [], [])).1, (z9.getD y1.1.toNat (0, [], [], [], [])).2.1, (z9.getD y1.1.toNat (0, [], [], [], [])).2.2.1, (z9.getD y1.1.toNat (0, [], [], [], [])).2.2.2.1, (z9.getD y1.1.toNat (0, [], [], [], [])).2.2.2.2, y0.1, y8.2.2.1, y8.2.2.2)
 else none
 else none
 else none
 else none
 else
 bif (decide (y2.1 = (4 : Int))) then
 bif (decide ((0 : Int) < (((y0.2.1.getD y1.1.toNat (0, [], [], [], [])).2.2.2.2).length : Int))) then
 (some ((y0.2.1.set y1.1.toNat ((y0.2.1.getD y1.1.toNat (0, [], [], [], [])).1, (y0.2.1.getD y1.1.toNat (0, [], [], [], [])).2.1, (y0.2.1.getD y1.1.toNat (0, [], [], [], [])).2.2.1, (y0.2.1.getD y1.1.toNat (0, [], [], [], [])).2.2.2.1, (((y0.2.1.getD y1.1.toNat (0, [], [], [], [])).2.2.2.2).set 0 (-1)))) : tyN)).bind fun z10 =>
 bif ((decide (y1.1 ≤ y1.1)) && (decide (y1.1 < (y1.1 + (1 : Int))))) then
 bif ((decide (y1.1 ≤ y1.1)) && (decide (y1.1 < (y1.1 + (1 : Int))))) then
 bif ((decide (y1.1 ≤ y1.1)) && (decide (y1.1 < (y1.1 + (1 : Int))))) then
 some ((y0.2.1.getD y1.1.toNat (0, [], [], [], [])).1, (z10.getD y1.1.toNat (0, [], [], [], [])).2.1, (z10.getD y1.1.toNat (0, [], [], [], [])).2.2.1, (z10.getD y1.1.toNat (0, [], [], [], [])).2.2.2.1, (z10.getD y1.1.toNat (0, [], [], [], [])).2.2.2.2, y0.1, y2.2.1, y2.2.2)
 else none
 else none
 else none
 else none
 else
 bif ((decide (y1.1 ≤ y1.1)) && (decide (y1.1 < (y1.1 + (1 : Int))))) then
 bif ((decide (y1.1 ≤ y1.1)) && (decide (y1.1 < (y1.1 + (1 : Int))))) then
 bif ((decide (y1.1 ≤ y1.1)) && (decide (y1.1 < (y1.1 + (1 : Int))))) then
 some ((y0.2.1.getD y1.1.toNat (0, [], [], [], [])).1, (y0.2.1.getD y1.1.toNat (0, [], [], [], [])).2.1, (y0.2.1.getD y1.1.toNat (0, [], [], [], [])).2.2.1, (y0.2.1.getD y1.1.toNat (0, [], [], [], [])).2.2.2.1, (y0.2.1.getD y1.1.toNat (0, [], [], [], [])).2.2.2.2, y0.1, y2.2.1, y2.2.2)
 else none
 else none
 else none
 else none
noncomputable def C107 : Con := ⟨[(.P [false, true, true], false, [(.sl R0), iI, iI])], [(true, [iI, (.sl R4), (.sl R5), (.sl R7), (.sl R1)]), (false, [iI])], [(.sl R0), iI, iI], [iI, (.sl R4), (.sl R5), (.sl R7), (.sl R1), iI, iI, iI], fun (p : List Int × Int × Int) => f_spec_l5Draw p.1 p.2.1 p.2.2⟩
noncomputable abbrev K107 : Cons := [(106, C106), (172, C172), (173, C173), (174, C174), (176, C176), (177, C177)]
noncomputable abbrev L107 : List (Nat × Loops) := []
abbrev Q107 : List (Nat × List (Int × Nat) × Nat) := []
noncomputable abbrev X107 : Nat → Ctx := ctxOf tb K107 L107 Q107
theorem E107 : ∀ x, funG fs X107 6 107 C107 x = C107.fn x := fun x => by kernel_rfl
theorem B107 : ConG Tryz.prog 107 C107 := ConG.make FS MIX TY (cons := K107) (L := L107) (ptrs := Q107) ⟨S106, S172, S173, S174, S176, S177, trivial⟩ trivial trivial rfl (by kernel_rfl) E107
theorem S107 : ConS Tryz.prog 107 C107 := B107.call (by kernel_rfl)
noncomputable def f_spec_DrawNodeHear.l0 : Nat → (List Int) → Int → Int → Int → Int → Int → Bool → Option (List Int × Int × Int × Int × Int × Bool)
 | 0, _, _, _, _, _, _, _ => none
 | n + 1, p0, p1, p2, p3, p4, p5, p6 =>
 bif (decide (p2 < (p0.length : Int))) then
 bif (decide (p2 < (4000 : Int))) then
 bif ((decide ((0 : Int) ≤ p2)) && (decide (p2 < (p0.length : Int)))) then
 f_spec_DrawNodeHear.l0 n p0 (bitI .and .i64 (IntKind.wrap .i64 ((IntKind.wrap .i64 ((IntKind.wrap .i64 (p1 * (131 : Int))) + (IntKind.wrap .i64 ((p0.getD p2.toNat 0))))) + (7 : Int))) (1073741823 : Int)) (IntKind.wrap .i64 (p2 + (1 : Int))) p3 p4 p5 p6
 else none
 else
 some (p0, p1, p3, p4, p5, p6)
 else
 some (p0, p1, p3, p4, p5, p6)
noncomputable def f_spec_DrawNodeHear (x0 : List Int) : Option (Int × tyF × tyH × tyS × List Int × Int × Int × Int × Int × Bool × List Int) :=
 (f_spec_DrawNodeHear.l0 N x0 (IntKind.wrap .i64 ((20404 : Int) + (x0.length : Int))) 0 0 0 0 false).bind fun r0 =>
 (f_spec_l5Draw r0.1 0 r0.2.1).bind fun y1 =>
 (f_spec_l1Draw r0.1 y1.2.2.2.2.2.2.1 y1.2.2.2.2.2.2.2).bind fun y2 =>
 (f_spec_l1Below r0.1 y2.2.2.2.2.1 y2.2.2.2.2.2 4).bind fun y3 =>
 (f_spec_l1Once r0.1 y3.2.1 y3.2.2 2).bind fun y4 =>
 bif y4.1 then
 bif (decide ((0 : Int) ≤ y2.2.1)) then
 bif (decide (y1.2.2.2.2.2.1 = (0 : Int))) then none else
 some (y1.1, y1.2.1, y1.2.2.1, y1.2.2.2.1, y1.2.2.2.2.1, y1.2.2.2.2.2.1, (Int.tmod y2.2.1 y1.2.2.2.2.2.1), y2.1, y2.2.1, y2.2.2.1, y2.2.2.2.1)
 else
 some (y1.1, y1.2.1, y1.2.2.1, y1.2.2.2.1, y1.2.2.2.2.1, y1.2.2.2.2.2.1, y3.1, y2.1, y2.2.1, y2.2.2.1, y2.2.2.2.1)
 else
 some (y1.1, y1.2.1, y1.2.2.1, y1.2.2.2.1, y1.2.2.2.2.1, y1.2.2.2.2.2.1, y3.1, y2.1, y2.2.1, y2.2.2.1, y2.2.2.2.1)
noncomputable def C42 : Con := ⟨[(.B, false, [(.sl R0)])], [(true, [iI, (.sl R4), (.sl R5), (.sl R7), (.sl R1)]), (false, [iI]), (false, [iI]), (true, [iI, iI, .bool, (.sl R1)])], [(.sl R0)], [iI, (.sl R4), (.sl R5), (.sl R7), (.sl R1), iI, iI, iI, iI, .bool, (.sl R1)], fun (p : List Int) => f_spec_DrawNodeHear p⟩
noncomputable abbrev f_spec_DrawNodeHear.l0.u (n : Nat) := fun (p : List Int × Int × Int × Int × Int × Int × Bool) => f_spec_DrawNodeHear.l0 n p.1 p.2.1 p.2.2.1 p.2.2.2.1 p.2.2.2.2.1 p.2.2.2.2.2.1 p.2.2.2.2.2.2
noncomputable def f_spec_DrawNodeHear.l0.c : LoopCon := ⟨1113, 5, [0, 3, 4], ⟨[(0, bN R0), (3, i0), (4, i0)], [(1001, .box [i0, .nil (some R4), .nil (some R5), .nil (some R7), .nil (some R1)]), (1049, .box [i0, i0, .bool false, .nil (some R1)])], 1113⟩, [(.sl R0), iI, iI, iI, iI, iI, .bool], [⟨.exit 0, [0, 3], ⟨[(0, bN R0), (3, i0)], [(1001, .box [i0, .nil (some R4), .nil (some R5), .nil (some R7), .nil (some R1)]), (1049, .box [i0, i0, .bool false, .nil (some R1)])], 1113⟩, [(.sl R0), iI, iI, iI, iI, .bool]⟩], f_spec_DrawNodeHear.l0.u N⟩
noncomputable abbrev K42 : Cons := [(106, C106), (107, C107), (108, C108), (109, C109)]
noncomputable abbrev L42 : List (Nat × Loops) := [(104, [(3, f_spec_DrawNodeHear.l0.c)])]
abbrev Q42 : List (Nat × List (Int × Nat) × Nat) := []
noncomputable abbrev X42 : Nat → Ctx := ctxOf tb K42 L42 Q42
theorem f_spec_DrawNodeHear.l0.ok : ∀ n p, f_spec_DrawNodeHear.l0.u n p = iterD (roundOf fs X42 5 104 3 true f_spec_DrawNodeHear.l0.c) n p :=
 iter_of (l := f_spec_DrawNodeHear.l0.u) (fun _ => rfl) (fun n p => by kernel_rfl)
theorem E42 : ∀ x, funRun fs X42 6 42 C42 x = C42.fn x := fun x => by kernel_rfl
theorem B42 : ConB Tryz.prog 42 C42 := ConB.make FS MIX TY (cons := K42) (L := L42) (ptrs := Q42) ⟨S106, S107, S108, S109, trivial⟩ trivial ⟨⟨⟨N, fun p => f_spec_DrawNodeHear.l0.ok N p⟩, trivial⟩, trivial⟩ rfl rfl E42
theorem S42 : ConS Tryz.prog 42 C42 := B42.call rfl
noncomputable def f_impl_from (x0 : Int) (x1 : Int) (x2 : Int) : Option (Bool) :=
 bif (decide (x1 ≤ x0)) then
 some (decide (x0 ≤ x2))
 else
 some false
noncomputable def C140 : Con := ⟨[(.B, false, [iI]), (.B, false, [iI]), (.B, false, [iI])], [(false, [.bool])], [iI, iI, iI], [.bool], fun (p : Int × Int × Int) => f_impl_from p.1 p.2.1 p.2.2⟩
noncomputable abbrev K140 : Cons := []
noncomputable abbrev L140 : List (Nat × Loops) := []
abbrev Q140 : List (Nat × List (Int × Nat) × Nat) := []
noncomputable abbrev X140 : Nat → Ctx := ctxOf tb K140 L140 Q140
theorem E140 : ∀ x, funRun fs X140 6 140 C140 x = C140.fn x := fun x => by kernel_rfl
theorem B140 : ConB Tryz.prog 140 C140 := ConB.make FS MIX TY (cons := K140) (L := L140) (ptrs := Q140) trivial trivial trivial rfl rfl E140
theorem S140 : ConS Tryz.prog 140 C140 := B140.call rfl
noncomputable def f_impl_isOf (x0 : Int) (x1 : Int) : Option (Bool) :=
 (f_impl_from x1 1 4).bind fun y0 =>
 bif y0 then
 (f_impl_from x0 0 (IntKind.wrap .i64 (x1 - (1 : Int)))).bind fun y1 =>
 some y1
 else
 some false
noncomputable def C100 : Con := ⟨[(.B, false, [iI]), (.B, false, [iI])], [(false, [.bool])], [iI, iI], [.bool], fun (p : Int × Int) => f_impl_isOf p.1 p.2⟩
noncomputable abbrev K100 : Cons := [(140, C140)]
noncomputable abbrev L100 : List (Nat × Loops) := []
abbrev Q100 : List (Nat × List (Int × Nat) × Nat) := []
noncomputable abbrev X100 : Nat → Ctx := ctxOf tb K100 L100 Q100
theorem E100 : ∀ x, funRun fs X100 6 100 C100 x = C100.fn x := fun x => by kernel_rfl
theorem B100 : ConB Tryz.prog 100 C100 := ConB.make FS MIX TY (cons := K100) (L := L100) (ptrs := Q100) ⟨S140, trivial⟩ trivial trivial rfl rfl E100
theorem S100 : ConS Tryz.prog 100 C100 := B100.call rfl
noncomputable def f_impl_isWord (x0 : Int) : Option (Bool) :=
 (f_impl_from x0 0 65535).bind fun y0 =>
 some y0
noncomputable def C212 : Con := ⟨[(.B, false, [iI])], [(false, [.bool])], [iI], [.bool], fun (p : Int) => f_impl_isWord p⟩
noncomputable abbrev K212 : Cons := [(140, C140)]
noncomputable abbrev L212 : List (Nat × Loops) := []
abbrev Q212 : List (Nat × List (Int × Nat) × Nat) := []
noncomputable abbrev X212 : Nat → Ctx := ctxOf tb K212 L212 Q212
theorem E212 : ∀ x, funRun fs X212 6 212 C212 x = C212.fn x := fun x => by kernel_rfl
theorem B212 : ConB Tryz.prog 212 C212 := ConB.make FS MIX TY (cons := K212) (L := L212) (ptrs := Q212) ⟨S140, trivial⟩ trivial trivial rfl rfl E212
theorem S212 : ConS Tryz.prog 212 C212 := B212.call rfl
noncomputable def f_impl_wordsOk_1 (x0 : Int) : Option (Bool) :=
 (f_impl_isWord x0).bind fun y0 =>
 some (!y0)
noncomputable def C211 : Con := ⟨[(.B, false, [iI])], [(false, [.bool])], [iI], [.bool], fun (p : Int) => f_impl_wordsOk_1 p⟩
noncomputable abbrev K211 : Cons := [(212, C212)]
noncomputable abbrev L211 : List (Nat × Loops) := []
abbrev Q211 : List (Nat × List (Int × Nat) × Nat) := []
noncomputable abbrev X211 : Nat → Ctx := ctxOf tb K211 L211 Q211
theorem E211 : ∀ x, funRun fs X211 6 211 C211 x = C211.fn x := fun x => by kernel_rfl
theorem B211 : ConB Tryz.prog 211 C211 := ConB.make FS MIX TY (cons := K211) (L := L211) (ptrs := Q211) ⟨S212, trivial⟩ trivial trivial rfl rfl E211
theorem S211 : ConS Tryz.prog 211 C211 := B211.call rfl
noncomputable def f_impl_wordsOk.l0 : Nat → (List Int) → Int → Int → Int → Option ((Int) ⊕ (Int))
 | 0, _, _, _, _ => none
 | n + 1, p0, p1, p2, p3 =>
 bif (decide (p3 < p2)) then
 bif ((decide ((0 : Int) ≤ p3)) && (decide (p3 < (p0.length : Int)))) then
 (f_impl_wordsOk_1 (p0.getD p3.toNat 0)).bind fun y4 =>
 bif y4 then
 some (.inl p3)
 else
 f_impl_wordsOk.l0 n p0 p1 p2 (IntKind.wrap .i64 (p3 + (1 : Int)))
 else none
 else
 some (.inr p1)
noncomputable def f_impl_wordsOk (x0 : List Int) (x1 : Int) : Option (Bool) :=
 bif (decide ((x0.length : Int) = x1)) then
 (f_impl_wordsOk.l0 N x0 0 (x0.length : Int) 0).bind fun r0 =>
 cs r0 (fun a1 =>
 some (!(decide ((0 : Int) ≤ a1)))) (fun b2 =>
 some true)
 else
 some false
noncomputable def C179 : Con := ⟨[(.B, false, [(.sl R1)]), (.B, false, [iI])], [(false, [.bool])], [(.sl R1), iI], [.bool], fun (p : List Int × Int) => f_impl_wordsOk p.1 p.2⟩
noncomputable abbrev f_impl_wordsOk.l0.u (n : Nat) := fun (p : List Int × Int × Int × Int) => f_impl_wordsOk.l0 n p.1 p.2.1 p.2.2.1 p.2.2.2
noncomputable def f_impl_wordsOk.l0.c : LoopCon := ⟨1274, 4, [0, 1, 4, 7, 8], ⟨[(0, bN R1), (1, .func 211 []), (4, i0), (7, i0), (8, i0)], [], 1274⟩, [(.sl R1), iI, iI, iI], [⟨.ret, [4], ⟨[(4, i0)], [], 1274⟩, [iI]⟩, ⟨.exit 0, [4], ⟨[(4, i0)], [], 1274⟩, [iI]⟩], f_impl_wordsOk.l0.u N⟩
noncomputable abbrev K179 : Cons := [(211, C211)]
noncomputable abbrev L179 : List (Nat × Loops) := [(222, [(2, f_impl_wordsOk.l0.c)])]
abbrev Q179 : List (Nat × List (Int × Nat) × Nat) := []
noncomputable abbrev X179 : Nat → Ctx := ctxOf tb K179 L179 Q179
theorem f_impl_wordsOk.l0.ok : ∀ n p, f_impl_wordsOk.l0.u n p = iterD (roundOf fs X179 4 222 2 true f_impl_wordsOk.l0.c) n p :=
 iter_of (l := f_impl_wordsOk.l0.u) (fun _ => rfl) (fun n p => by kernel_rfl)
theorem E179 : ∀ x, funRun fs X179 6 179 C179 x = C179.fn x := fun x => by kernel_rfl
theorem B179 : ConB Tryz.prog 179 C179 := ConB.make FS MIX TY (cons := K179) (L := L179) (ptrs := Q179) ⟨S211, trivial⟩ trivial ⟨⟨⟨N, fun p => f_impl_wordsOk.l0.ok N p⟩, trivial⟩, trivial⟩ rfl rfl E179
theorem S179 : ConS Tryz.prog 179 C179 := B179.call rfl
noncomputable def f_impl_FrameOk (x0 : Int) (x1 : List Int) (x2 : Bool) : Option (Bool) :=
 bif (decide (x0 = (0 : Int))) then
 some (decide ((x1.length : Int) = (0 : Int)))
 else
 bif (decide (x0 = (1 : Int))) then
 (f_impl_wordsOk x1 4).bind fun y0 =>
 some y0
 else
 bif (decide (x0 = (2 : Int))) then
 (f_impl_wordsOk x1 4).bind fun y1 =>
 some y1
 else
 some false
noncomputable def C120 : Con := ⟨[(.B, true, [iI, (.sl R1), .bool])], [(false, [.bool])], [iI, (.sl R1), .bool], [.bool], fun (p : Int × List Int × Bool) => f_impl_FrameOk p.1 p.2.1 p.2.2⟩
noncomputable abbrev K120 : Cons := [(179, C179)]
noncomputable abbrev L120 : List (Nat × Loops) := []
abbrev Q120 : List (Nat × List (Int × Nat) × Nat) := []
noncomputable abbrev X120 : Nat → Ctx := ctxOf tb K120 L120 Q120
theorem E120 : ∀ x, funRun fs X120 6 120 C120 x = C120.fn x := fun x => by kernel_rfl
theorem B120 : ConB Tryz.prog 120 C120 := ConB.make FS MIX TY (cons := K120) (L := L120) (ptrs := Q120) ⟨S179, trivial⟩ trivial trivial rfl rfl E120
theorem S120 : ConS Tryz.prog 120 C120 := B120.call rfl
noncomputable def f_impl_NodeOk_1 (x0 : Int) (x1 : List Int) (x2 : Bool) : Option (Bool) :=
 (f_impl_FrameOk x0 x1 x2).bind fun y0 =>
 some (!y0)
noncomputable def C119 : Con := ⟨[(.B, true, [iI, (.sl R1), .bool])], [(false, [.bool])], [iI, (.sl R1), .bool], [.bool], fun (p : Int × List Int × Bool) => f_impl_NodeOk_1 p.1 p.2.1 p.2.2⟩
noncomputable abbrev K119 : Cons := [(120, C120)]
noncomputable abbrev L119 : List (Nat × Loops) := []
abbrev Q119 : List (Nat × List (Int × Nat) × Nat) := []
noncomputable abbrev X119 : Nat → Ctx := ctxOf tb K119 L119 Q119
theorem E119 : ∀ x, funRun fs X119 6 119 C119 x = C119.fn x := fun x => by kernel_rfl
theorem B119 : ConB Tryz.prog 119 C119 := ConB.make FS MIX TY (cons := K119) (L := L119) (ptrs := Q119) ⟨S120, trivial⟩ trivial trivial rfl rfl E119
theorem S119 : ConS Tryz.prog 119 C119 := B119.call rfl
noncomputable def f_impl_HomeOk_1 (x0 : Int) (x1 : Bool) (x2 : Int) : Option (Bool) :=
 (f_impl_isOf x0 x2).bind fun y0 =>
 some (!y0)
noncomputable def C188 : Con := ⟨[(.B, true, [iI, .bool]), (.Q, false, [iI])], [(false, [.bool])], [iI, .bool, iI], [.bool], fun (p : Int × Bool × Int) => f_impl_HomeOk_1 p.1 p.2.1 p.2.2⟩
noncomputable abbrev K188 : Cons := [(100, C100)]
noncomputable abbrev L188 : List (Nat × Loops) := []
abbrev Q188 : List (Nat × List (Int × Nat) × Nat) := []
noncomputable abbrev X188 : Nat → Ctx := ctxOf tb K188 L188 Q188
theorem E188 : ∀ x, funG fs X188 6 188 C188 x = C188.fn x := fun x => by kernel_rfl
theorem B188 : ConG Tryz.prog 188 C188 := ConG.make FS MIX TY (cons := K188) (L := L188) (ptrs := Q188) ⟨S100, trivial⟩ trivial trivial rfl (by kernel_rfl) E188
theorem S188 : ConS Tryz.prog 188 C188 := B188.call (by kernel_rfl)
noncomputable def f_impl_HomeOk.l0 : Nat → tyW → Int → Int → Int → (List Int) → Int → (List Bool) → Bool → Int → Bool → Int → tyW → Int → Option ((Int × List Int × Int × List Bool × Bool × Int × Bool × Int × tyW × Int) ⊕ (Int × List Int × Int × List Bool × Bool × Int × Bool × Int × tyW × Int))
 | 0, _, _, _, _, _, _, _, _, _, _, _, _, _ => none
 | n + 1, p0, p1, p2, p3, p4, p5, p6, p7, p8, p9, p10, p11, p12 =>
 bif (decide (p3 < p2)) then
 bif ((decide ((0 : Int) ≤ p3)) && (decide (p3 < (p0.length : Int)))) then
 (f_impl_HomeOk_1 ((p0.getD p3.toNat (0, false)).1) ((p0.getD p3.toNat (0, false)).2) p12).bind fun y13 =>
 bif y13 then
 some (.inl (p3, p4, p5, p6, p7, p8, p9, p10, p11, p12))
 else
 f_impl_HomeOk.l0 n p0 p1 p2 (IntKind.wrap .i64 (p3 + (1 : Int))) p4 p5 p6 p7 p8 p9 p10 p11 p12
 else none
 else
 some (.inr (p1, p4, p5, p6, p7, p8, p9, p10, p11, p12))
noncomputable def f_impl_HomeOk (x0 : List Int) (x1 : Int) (x2 : List Bool) (x3 : Bool) (x4 : Int) (x5 : Bool) (x6 : Int) (x7 : tyW) (x8 : Int) : Option (Bool) :=
 (f_impl_from x8 1 4).bind fun y0 =>
 bif y0 then
 (f_impl_wordsOk x0 4).bind fun y1 =>
 bif y1 then
 (f_impl_from x1 (-1) (IntKind.wrap .i64 (x8 - (1 : Int)))).bind fun y2 =>
 bif y2 then
 bif (decide ((x2.length : Int) = x8)) then
 (f_impl_isOf x4 x8).bind fun y3 =>
 bif y3 then
 (f_impl_from x6 0 x8).bind fun y4 =>
 bif y4 then
 bif (decide ((x7.length : Int) ≤ (12 : Int))) then
 (f_impl_HomeOk.l0 N x7 0 (x7.length : Int) 0 x0 x1 x2 x3 x4 x5 x6 x7 x8).bind fun r5 =>
 cs r5 (fun a6 =>
 some (!(decide ((0 : Int) ≤ a6.1)))) (fun b7 =>
 some true)
 else
 some false
 else
 some false
 else
 some false
 else
 some false
 else
 some false
 else
 some false
 else
 some false
noncomputable def C123 : Con := ⟨[(.B, true, [(.sl R1), iI, (.sl R2), .bool, iI, .bool, iI, (.sl R3)]), (.B, false, [iI])], [(false, [.bool])], [(.sl R1), iI, (.sl R2), .bool, iI, .bool, iI, (.sl R3), iI], [.bool], fun (p : List Int × Int × List Bool × Bool × Int × Bool × Int × tyW × Int) => f_impl_HomeOk p.1 p.2.1 p.2.2.1 p.2.2.2.1 p.2.2.2.2.1 p.2.2.2.2.2.1 p.2.2.2.2.2.2.1 p.2.2.2.2.2.2.2.1 p.2.2.2.2.2.2.2.2⟩
noncomputable abbrev f_impl_HomeOk.l0.u (n : Nat) := fun (p : tyW × Int × Int × Int × List Int × Int × List Bool × Bool × Int × Bool × Int × tyW × Int) => f_impl_HomeOk.l0 n p.1 p.2.1 p.2.2.1 p.2.2.2.1 p.2.2.2.2.1 p.2.2.2.2.2.1 p.2.2.2.2.2.2.1 p.2.2.2.2.2.2.2.1 p.2.2.2.2.2.2.2.2.1 p.2.2.2.2.2.2.2.2.2.1 p.2.2.2.2.2.2.2.2.2.2.1 p.2.2.2.2.2.2.2.2.2.2.2.1 p.2.2.2.2.2.2.2.2.2.2.2.2
noncomputable def f_impl_HomeOk.l0.c : LoopCon := ⟨1921, 4, [0, 1, 4, 7, 8], ⟨[(0, bN R3), (1, .func 188 [.ptr 1025 0]), (4, i0), (7, i0), (8, i0)], [(1009, .box [.bor (some 0) R1 [], i0, .bor (some 2) R2 [], .bool false, i0, .bool false, i0, .bor (some 7) R3 []]), (1025, .box [i0])], 1921⟩, [(.sl R3), iI, iI, iI, (.sl R1), iI, (.sl R2), .bool, iI, .bool, iI, (.sl R3), iI], [⟨.ret, [4], ⟨[(4, i0)], [(1009, .box [.bor (some 0) R1 [], i0, .bor (some 2) R2 [], .bool false, i0, .bool false, i0, .bor (some 7) R3 []]), (1025, .box [i0])], 1921⟩, [iI, (.sl R1), iI, (.sl R2), .bool, iI, .bool, iI, (.sl R3), iI]⟩, ⟨.exit 0, [4], ⟨[(4, i0)], [(1009, .box [.bor (some 0) R1 [], i0, .bor (some 2) R2 [], .bool false, i0, .bool false, i0, .bor (some 7) R3 []]), (1025, .box [i0])], 1921⟩, [iI, (.sl R1), iI, (.sl R2), .bool, iI, .bool, iI, (.sl R3), iI]⟩], f_impl_HomeOk.l0.u N⟩
noncomputable abbrev K123 : Cons := [(100, C100), (140, C140), (179, C179), (188, C188)]
noncomputable abbrev L123 : List (Nat × Loops) := [(217, [(2, f_impl_HomeOk.l0.c)])]
abbrev Q123 : List (Nat × List (Int × Nat) × Nat) := []
noncomputable abbrev X123 : Nat → Ctx := ctxOf tb K123 L123 Q123
theorem f_impl_HomeOk.l0.ok : ∀ n p, f_impl_HomeOk.l0.u n p = iterD (roundOf fs X123 4 217 2 true f_impl_HomeOk.l0.c) n p :=
 iter_of (l := f_impl_HomeOk.l0.u) (fun _ => rfl) (fun n p => by kernel_rfl)
theorem E123 : ∀ x, funRun fs X123 6 123 C123 x = C123.fn x := fun x => by kernel_rfl
theorem B123 : ConB Tryz.prog 123 C123 := ConB.make FS MIX TY (cons := K123) (L := L123) (ptrs := Q123) ⟨S100, S140, S179, S188, trivial⟩ trivial ⟨⟨⟨N, fun p => f_impl_HomeOk.l0.ok N p⟩, trivial⟩, trivial⟩ rfl rfl E123
theorem S123 : ConS Tryz.prog 123 C123 := B123.call rfl
noncomputable def f_impl_NodeOk_2 (x0 : List Int) (x1 : Int) (x2 : List Bool) (x3 : Bool) (x4 : Int) (x5 : Bool) (x6 : Int) (x7 : tyW) (x8 : Int) : Option (Bool) :=
 (f_impl_HomeOk x0 x1 x2 x3 x4 x5 x6 x7 x8).bind fun y0 =>
 some (!y0)
noncomputable def C122 : Con := ⟨[(.B, true, [(.sl R1), iI, (.sl R2), .bool, iI, .bool, iI, (.sl R3)]), (.Q, false, [iI])], [(false, [.bool])], [(.sl R1), iI, (.sl R2), .bool, iI, .bool, iI, (.sl R3), iI], [.bool], fun (p : List Int × Int × List Bool × Bool × Int × Bool × Int × tyW × Int) => f_impl_NodeOk_2 p.1 p.2.1 p.2.2.1 p.2.2.2.1 p.2.2.2.2.1 p.2.2.2.2.2.1 p.2.2.2.2.2.2.1 p.2.2.2.2.2.2.2.1 p.2.2.2.2.2.2.2.2⟩
noncomputable abbrev K122 : Cons := [(123, C123)]
noncomputable abbrev L122 : List (Nat × Loops) := []
abbrev Q122 : List (Nat × List (Int × Nat) × Nat) := []
noncomputable abbrev X122 : Nat → Ctx := ctxOf tb K122 L122 Q122
theorem E122 : ∀ x, funG fs X122 6 122 C122 x = C122.fn x := fun x => by kernel_rfl
theorem B122 : ConG Tryz.prog 122 C122 := ConG.make FS MIX TY (cons := K122) (L := L122) (ptrs := Q122) ⟨S123, trivial⟩ trivial trivial rfl (by kernel_rfl) E122
theorem S122 : ConS Tryz.prog 122 C122 := B122.call (by kernel_rfl)
noncomputable def f_impl_isSeq (x0 : Int) : Option (Bool) :=
 (f_impl_from x0 0 100000).bind fun y0 =>
 some y0
noncomputable def C129 : Con := ⟨[(.B, false, [iI])], [(false, [.bool])], [iI], [.bool], fun (p : Int) => f_impl_isSeq p⟩
noncomputable abbrev K129 : Cons := [(140, C140)]
noncomputable abbrev L129 : List (Nat × Loops) := []
abbrev Q129 : List (Nat × List (Int × Nat) × Nat) := []
noncomputable abbrev X129 : Nat → Ctx := ctxOf tb K129 L129 Q129
theorem E129 : ∀ x, funRun fs X129 6 129 C129 x = C129.fn x := fun x => by kernel_rfl
theorem B129 : ConB Tryz.prog 129 C129 := ConB.make FS MIX TY (cons := K129) (L := L129) (ptrs := Q129) ⟨S140, trivial⟩ trivial trivial rfl rfl E129
theorem S129 : ConS Tryz.prog 129 C129 := B129.call rfl
noncomputable def f_impl_isPage (x0 : Int) : Option (Bool) :=
 (f_impl_from x0 0 5).bind fun y0 =>
 some y0
noncomputable def C65 : Con := ⟨[(.B, false, [iI])], [(false, [.bool])], [iI], [.bool], fun (p : Int) => f_impl_isPage p⟩
noncomputable abbrev K65 : Cons := [(140, C140)]
noncomputable abbrev L65 : List (Nat × Loops) := []
abbrev Q65 : List (Nat × List (Int × Nat) × Nat) := []
noncomputable abbrev X65 : Nat → Ctx := ctxOf tb K65 L65 Q65
theorem E65 : ∀ x, funRun fs X65 6 65 C65 x = C65.fn x := fun x => by kernel_rfl
theorem B65 : ConB Tryz.prog 65 C65 := ConB.make FS MIX TY (cons := K65) (L := L65) (ptrs := Q65) ⟨S140, trivial⟩ trivial trivial rfl rfl E65
theorem S65 : ConS Tryz.prog 65 C65 := B65.call rfl
noncomputable def f_impl_MsgOk (x0 : Int) (x1 : Int) (x2 : Bool) (x3 : List Int) : Option (Bool) :=
 (f_impl_from x0 1 7).bind fun y0 =>
 bif (!y0) then
 some false
 else
 (f_impl_isPage x1).bind fun y1 =>
 bif (!y1) then
 some false
 else
 bif x2 then
 bif (!(decide (x0 = (3 : Int)))) then
 bif (!(decide (x0 = (6 : Int)))) then
 some false
 else
 bif (decide (x0 = (3 : Int))) then
 (f_impl_wordsOk x3 4).bind fun y2 =>
 some y2
 else
 bif (decide (x0 = (7 : Int))) then
 (f_impl_wordsOk x3 4).bind fun y3 =>
 some y3
 else
 some (decide ((x3.length : Int) = (0 : Int)))
 else
 bif (decide (x0 = (3 : Int))) then
 (f_impl_wordsOk x3 4).bind fun y4 =>
 some y4
 else
 bif (decide (x0 = (7 : Int))) then
 (f_impl_wordsOk x3 4).bind fun y5 =>
 some y5
 else
 some (decide ((x3.length : Int) = (0 : Int)))
 else
 bif (decide (x0 = (3 : Int))) then
 (f_impl_wordsOk x3 4).bind fun y6 =>
 some y6
 else
 bif (decide (x0 = (7 : Int))) then
 (f_impl_wordsOk x3 4).bind fun y7 =>
 some y7
 else
 some (decide ((x3.length : Int) = (0 : Int)))
noncomputable def C110 : Con := ⟨[(.B, true, [iI, iI, .bool, (.sl R1)])], [(false, [.bool])], [iI, iI, .bool, (.sl R1)], [.bool], fun (p : Int × Int × Bool × List Int) => f_impl_MsgOk p.1 p.2.1 p.2.2.1 p.2.2.2⟩
noncomputable abbrev K110 : Cons := [(65, C65), (140, C140), (179, C179)]
noncomputable abbrev L110 : List (Nat × Loops) := []
abbrev Q110 : List (Nat × List (Int × Nat) × Nat) := []
noncomputable abbrev X110 : Nat → Ctx := ctxOf tb K110 L110 Q110
theorem E110 : ∀ x, funRun fs X110 6 110 C110 x = C110.fn x := fun x => by kernel_rfl
theorem B110 : ConB Tryz.prog 110 C110 := ConB.make FS MIX TY (cons := K110) (L := L110) (ptrs := Q110) ⟨S65, S140, S179, trivial⟩ trivial trivial rfl rfl E110
theorem S110 : ConS Tryz.prog 110 C110 := B110.call rfl
noncomputable def f_impl_SenderOk_1 (x0 : Int) (x1 : Int) (x2 : Bool) (x3 : List Int) : Option (Bool) :=
 (f_impl_MsgOk x0 x1 x2 x3).bind fun y0 =>
 some (!y0)
noncomputable def C191 : Con := ⟨[(.B, true, [iI, iI, .bool, (.sl R1)])], [(false, [.bool])], [iI, iI, .bool, (.sl R1)], [.bool], fun (p : Int × Int × Bool × List Int) => f_impl_SenderOk_1 p.1 p.2.1 p.2.2.1 p.2.2.2⟩
noncomputable abbrev K191 : Cons := [(110, C110)]
noncomputable abbrev L191 : List (Nat × Loops) := []
abbrev Q191 : List (Nat × List (Int × Nat) × Nat) := []
noncomputable abbrev X191 : Nat → Ctx := ctxOf tb K191 L191 Q191
theorem E191 : ∀ x, funRun fs X191 6 191 C191 x = C191.fn x := fun x => by kernel_rfl
theorem B191 : ConB Tryz.prog 191 C191 := ConB.make FS MIX TY (cons := K191) (L := L191) (ptrs := Q191) ⟨S110, trivial⟩ trivial trivial rfl rfl E191
theorem S191 : ConS Tryz.prog 191 C191 := B191.call rfl
noncomputable def f_impl_SenderOk.l0 : Nat → tyM → Int → Int → Int → Int → tyM → Option ((Int × Int × tyM) ⊕ (Int × Int × tyM))
 | 0, _, _, _, _, _, _ => none
 | n + 1, p0, p1, p2, p3, p4, p5 =>
 bif (decide (p3 < p2)) then
 bif ((decide ((0 : Int) ≤ p3)) && (decide (p3 < (p0.length : Int)))) then
 (f_impl_SenderOk_1 ((p0.getD p3.toNat (0, 0, false, [])).1) ((p0.getD p3.toNat (0, 0, false, [])).2.1) ((p0.getD p3.toNat (0, 0, false, [])).2.2.1) ((p0.getD p3.toNat (0, 0, false, [])).2.2.2)).bind fun y6 =>
 bif y6 then
 some (.inl (p3, p4, p5))
 else
 f_impl_SenderOk.l0 n p0 p1 p2 (IntKind.wrap .i64 (p3 + (1 : Int))) p4 p5
 else none
 else
 some (.inr (p1, p4, p5))
noncomputable def f_impl_SenderOk (x0 : Int) (x1 : tyM) : Option (Bool) :=
 (f_impl_isSeq x0).bind fun y0 =>
 bif y0 then
 bif (decide ((x1.length : Int) ≤ (30 : Int))) then
 bif (decide ((IntKind.wrap .i64 (x0 + (x1.length : Int))) ≤ (100000 : Int))) then
 (f_impl_SenderOk.l0 N x1 0 (x1.length : Int) 0 x0 x1).bind fun r1 =>
 cs r1 (fun a2 =>
 some (!(decide ((0 : Int) ≤ a2.1)))) (fun b3 =>
 some true)
 else
 some false
 else
 some false
 else
 some false
noncomputable def C126 : Con := ⟨[(.B, true, [iI, (.sl R6)])], [(false, [.bool])], [iI, (.sl R6)], [.bool], fun (p : Int × tyM) => f_impl_SenderOk p.1 p.2⟩
noncomputable abbrev f_impl_SenderOk.l0.u (n : Nat) := fun (p : tyM × Int × Int × Int × Int × tyM) => f_impl_SenderOk.l0 n p.1 p.2.1 p.2.2.1 p.2.2.2.1 p.2.2.2.2.1 p.2.2.2.2.2
noncomputable def f_impl_SenderOk.l0.c : LoopCon := ⟨1530, 4, [0, 1, 4, 7, 8], ⟨[(0, bN R6), (1, .func 191 []), (4, i0), (7, i0), (8, i0)], [(1002, .box [i0, .bor (some 1) R6 []])], 1530⟩, [(.sl R6), iI, iI, iI, iI, (.sl R6)], [⟨.ret, [4], ⟨[(4, i0)], [(1002, .box [i0, .bor (some 1) R6 []])], 1530⟩, [iI, iI, (.sl R6)]⟩, ⟨.exit 0, [4], ⟨[(4, i0)], [(1002, .box [i0, .bor (some 1) R6 []])], 1530⟩, [iI, iI, (.sl R6)]⟩], f_impl_SenderOk.l0.u N⟩
noncomputable abbrev K126 : Cons := [(129, C129), (191, C191)]
noncomputable abbrev L126 : List (Nat × Loops) := [(218, [(2, f_impl_SenderOk.l0.c)])]
abbrev Q126 : List (Nat × List (Int × Nat) × Nat) := []
noncomputable abbrev X126 : Nat → Ctx := ctxOf tb K126 L126 Q126
theorem f_impl_SenderOk.l0.ok : ∀ n p, f_impl_SenderOk.l0.u n p = iterD (roundOf fs X126 4 218 2 true f_impl_SenderOk.l0.c) n p :=
 iter_of (l := f_impl_SenderOk.l0.u) (fun _ => rfl) (fun n p => by kernel_rfl)
theorem E126 : ∀ x, funRun fs X126 6 126 C126 x = C126.fn x := fun x => by kernel_rfl
theorem B126 : ConB Tryz.prog 126 C126 := ConB.make FS MIX TY (cons := K126) (L := L126) (ptrs := Q126) ⟨S129, S191, trivial⟩ trivial ⟨⟨⟨N, fun p => f_impl_SenderOk.l0.ok N p⟩, trivial⟩, trivial⟩ rfl rfl E126
theorem S126 : ConS Tryz.prog 126 C126 := B126.call rfl
noncomputable def f_impl_NodeOk_3 (x0 : Int) (x1 : tyM) : Option (Bool) :=
 (f_impl_SenderOk x0 x1).bind fun y0 =>
 some (!y0)
noncomputable def C125 : Con := ⟨[(.B, true, [iI, (.sl R6)])], [(false, [.bool])], [iI, (.sl R6)], [.bool], fun (p : Int × tyM) => f_impl_NodeOk_3 p.1 p.2⟩
noncomputable abbrev K125 : Cons := [(126, C126)]
noncomputable abbrev L125 : List (Nat × Loops) := []
abbrev Q125 : List (Nat × List (Int × Nat) × Nat) := []
noncomputable abbrev X125 : Nat → Ctx := ctxOf tb K125 L125 Q125
theorem E125 : ∀ x, funRun fs X125 6 125 C125 x = C125.fn x := fun x => by kernel_rfl
theorem B125 : ConB Tryz.prog 125 C125 := ConB.make FS MIX TY (cons := K125) (L := L125) (ptrs := Q125) ⟨S126, trivial⟩ trivial trivial rfl rfl E125
theorem S125 : ConS Tryz.prog 125 C125 := B125.call rfl
noncomputable def f_impl_NodeOk_4 (x0 : Int) : Option (Bool) :=
 (f_impl_isSeq x0).bind fun y0 =>
 some (!y0)
noncomputable def C128 : Con := ⟨[(.B, true, [iI])], [(false, [.bool])], [iI], [.bool], fun (p : Int) => f_impl_NodeOk_4 p⟩
noncomputable abbrev K128 : Cons := [(129, C129)]
noncomputable abbrev L128 : List (Nat × Loops) := []
abbrev Q128 : List (Nat × List (Int × Nat) × Nat) := []
noncomputable abbrev X128 : Nat → Ctx := ctxOf tb K128 L128 Q128
theorem E128 : ∀ x, funRun fs X128 6 128 C128 x = C128.fn x := fun x => by kernel_rfl
theorem B128 : ConB Tryz.prog 128 C128 := ConB.make FS MIX TY (cons := K128) (L := L128) (ptrs := Q128) ⟨S129, trivial⟩ trivial trivial rfl rfl E128
theorem S128 : ConS Tryz.prog 128 C128 := B128.call rfl
noncomputable def f_impl_NodeOk.l9 : Nat → (List Int) → Int → Int → Int → Int → tyF → tyH → tyS → (List Int) → Int → Option ((Int × Int × tyF × tyH × tyS × List Int × Int) ⊕ (Int × Int × tyF × tyH × tyS × List Int × Int))
 | 0, _, _, _, _, _, _, _, _, _, _ => none
 | n + 1, p0, p1, p2, p3, p4, p5, p6, p7, p8, p9 =>
 bif (decide (p3 < p2)) then
 bif ((decide ((0 : Int) ≤ p3)) && (decide (p3 < (p0.length : Int)))) then
 (f_impl_NodeOk_4 (p0.getD p3.toNat 0)).bind fun y10 =>
 bif y10 then
 some (.inl (p3, p4, p5, p6, p7, p8, p9))
 else
 f_impl_NodeOk.l9 n p0 p1 p2 (IntKind.wrap .i64 (p3 + (1 : Int))) p4 p5 p6 p7 p8 p9
 else none
 else
 some (.inr (p1, p4, p5, p6, p7, p8, p9))
noncomputable def f_impl_NodeOk.l8 : Nat → tyS → Int → Int → Int → Int → tyF → tyH → tyS → (List Int) → Int → Option ((Int × Int × tyF × tyH × tyS × List Int × Int) ⊕ (Int × Int × tyF × tyH × tyS × List Int × Int))
 | 0, _, _, _, _, _, _, _, _, _, _ => none
 | n + 1, p0, p1, p2, p3, p4, p5, p6, p7, p8, p9 =>
 bif (decide (p3 < p2)) then
 bif ((decide ((0 : Int) ≤ p3)) && (decide (p3 < (p0.length : Int)))) then
 (f_impl_NodeOk_3 ((p0.getD p3.toNat (0, [])).1) ((p0.getD p3.toNat (0, [])).2)).bind fun y10 =>
 bif y10 then
 some (.inl (p3, p4, p5, p6, p7, p8, p9))
 else
 f_impl_NodeOk.l8 n p0 p1 p2 (IntKind.wrap .i64 (p3 + (1 : Int))) p4 p5 p6 p7 p8 p9
 else none
 else
 some (.inr (p1, p4, p5, p6, p7, p8, p9))
noncomputable def f_impl_NodeOk.l7 : Nat → tyH → Int → Int → Int → Int → tyF → tyH → tyS → (List Int) → Int → Option ((Int × Int × tyF × tyH × tyS × List Int × Int) ⊕ (Int × Int × tyF × tyH × tyS × List Int × Int))
 | 0, _, _, _, _, _, _, _, _, _, _ => none
 | n + 1, p0, p1, p2, p3, p4, p5, p6, p7, p8, p9 =>
 bif (decide (p3 < p2)) then
 bif ((decide ((0 : Int) ≤ p3)) && (decide (p3 < (p0.length : Int)))) then
 (f_impl_NodeOk_2 ((p0.getD p3.toNat ([], 0, [], false, 0, false, 0, [])).1) ((p0.getD p3.toNat ([], 0, [], false, 0, false, 0, [])).2.1) ((p0.getD p3.toNat ([], 0, [], false, 0, false, 0, [])).2.2.1) ((p0.getD p3.toNat ([], 0, [], false, 0, false, 0, [])).2.2.2.1) ((p0.getD p3.toNat ([], 0, [], false, 0, false, 0, [])).2.2.2.2.1) ((p0.getD p3.toNat ([], 0, [], false, 0, false, 0, [])).2.2.2.2.2.1) ((p0.getD p3.toNat ([], 0, [], false, 0, false, 0, [])).2.2.2.2.2.2.1) ((p0.getD p3.toNat ([], 0, [], false, 0, false, 0, [])).2.2.2.2.2.2.2) p9).bind fun y10 =>
 bif y10 then
 some (.inl (p3, p4, p5, p6, p7, p8, p9))
 else
 f_impl_NodeOk.l7 n p0 p1 p2 (IntKind.wrap .i64 (p3 + (1 : Int))) p4 p5 p6 p7 p8 p9
 else none
 else
 some (.inr (p1, p4, p5, p6, p7, p8, p9))
noncomputable def f_impl_NodeOk.l6 : Nat → (List Int) → Int → Int → Int → Int → tyF → tyH → tyS → (List Int) → Int → Option ((Int × Int × tyF × tyH × tyS × List Int × Int) ⊕ (Int × Int × tyF × tyH × tyS × List Int × Int))
 | 0, _, _, _, _, _, _, _, _, _, _ => none
 | n + 1, p0, p1, p2, p3, p4, p5, p6, p7, p8, p9 =>
 bif (decide (p3 < p2)) then
 bif ((decide ((0 : Int) ≤ p3)) && (decide (p3 < (p0.length : Int)))) then
 (f_impl_NodeOk_4 (p0.getD p3.toNat 0)).bind fun y10 =>
 bif y10 then
 some (.inl (p3, p4, p5, p6, p7, p8, p9))
 else
 f_impl_NodeOk.l6 n p0 p1 p2 (IntKind.wrap .i64 (p3 + (1 : Int))) p4 p5 p6 p7 p8 p9
 else none
 else
 some (.inr (p1, p4, p5, p6, p7, p8, p9))
noncomputable def f_impl_NodeOk.l5 : Nat → tyS → Int → Int → Int → Int → tyF → tyH → tyS → (List Int) → Int → Option ((Int × Int × tyF × tyH × tyS × List Int × Int) ⊕ (Int × Int × tyF × tyH × tyS × List Int × Int))
 | 0, _, _, _, _, _, _, _, _, _, _ => none
 | n + 1, p0, p1, p2, p3, p4, p5, p6, p7, p8, p9 =>
 bif (decide (p3 < p2)) then
 bif ((decide ((0 : Int) ≤ p3)) && (decide (p3 < (p0.length : Int)))) then
 (f_impl_NodeOk_3 ((p0.getD p3.toNat (0, [])).1) ((p0.getD p3.toNat (0, [])).2)).bind fun y10 =>
 bif y10 then
 some (.inl (p3, p4, p5, p6, p7, p8, p9))
 else
 f_impl_NodeOk.l5 n p0 p1 p2 (IntKind.wrap .i64 (p3 + (1 : Int))) p4 p5 p6 p7 p8 p9
 else none
 else
 some (.inr (p1, p4, p5, p6, p7, p8, p9))
noncomputable def f_impl_NodeOk.l4 : Nat → (List Int) → Int → Int → Int → Int → tyF → tyH → tyS → (List Int) → Int → Option ((Int × Int × tyF × tyH × tyS × List Int × Int) ⊕ (Int × Int × tyF × tyH × tyS × List Int × Int))
 | 0, _, _, _, _, _, _, _, _, _, _ => none
 | n + 1, p0, p1, p2, p3, p4, p5, p6, p7, p8, p9 =>
 bif (decide (p3 < p2)) then
 bif ((decide ((0 : Int) ≤ p3)) && (decide (p3 < (p0.length : Int)))) then
 (f_impl_NodeOk_4 (p0.getD p3.toNat 0)).bind fun y10 =>
 bif y10 then
 some (.inl (p3, p4, p5, p6, p7, p8, p9))
 else
 f_impl_NodeOk.l4 n p0 p1 p2 (IntKind.wrap .i64 (p3 + (1 : Int))) p4 p5 p6 p7 p8 p9
 else none
 else
 some (.inr (p1, p4, p5, p6, p7, p8, p9))
noncomputable def f_impl_NodeOk.l3 : Nat → (List Int) → Int → Int → Int → Int → tyF → tyH → tyS → (List Int) → Int → Option ((Int × Int × tyF × tyH × tyS × List Int × Int) ⊕ (Int × Int × tyF × tyH × tyS × List Int × Int))
 | 0, _, _, _, _, _, _, _, _, _, _ => none
 | n + 1, p0, p1, p2, p3, p4, p5, p6, p7, p8, p9 =>
 bif (decide (p3 < p2)) then
 bif ((decide ((0 : Int) ≤ p3)) && (decide (p3 < (p0.length : Int)))) then
 (f_impl_NodeOk_4 (p0.getD p3.toNat 0)).bind fun y10 =>
 bif y10 then
 some (.inl (p3, p4, p5, p6, p7, p8, p9))
 else
 f_impl_NodeOk.l3 n p0 p1 p2 (IntKind.wrap .i64 (p3 + (1 : Int))) p4 p5 p6 p7 p8 p9
 else none
 else
 some (.inr (p1, p4, p5, p6, p7, p8, p9))
noncomputable def f_impl_NodeOk.l2 : Nat → tyS → Int → Int → Int → Int → tyF → tyH → tyS → (List Int) → Int → Option ((Int × Int × tyF × tyH × tyS × List Int × Int) ⊕ (Int × Int × tyF × tyH × tyS × List Int × Int))
 | 0, _, _, _, _, _, _, _, _, _, _ => none
 | n + 1, p0, p1, p2, p3, p4, p5, p6, p7, p8, p9 =>
 bif (decide (p3 < p2)) then
 bif ((decide ((0 : Int) ≤ p3)) && (decide (p3 < (p0.length : Int)))) then
 (f_impl_NodeOk_3 ((p0.getD p3.toNat (0, [])).1) ((p0.getD p3.toNat (0, [])).2)).bind fun y10 =>
 bif y10 then
 some (.inl (p3, p4, p5, p6, p7, p8, p9))
 else
 f_impl_NodeOk.l2 n p0 p1 p2 (IntKind.wrap .i64 (p3 + (1 : Int))) p4 p5 p6 p7 p8 p9
 else none
 else
 some (.inr (p1, p4, p5, p6, p7, p8, p9))
noncomputable def f_impl_NodeOk.l1 : Nat → tyH → Int → Int → Int → Int → tyF → tyH → tyS → (List Int) → Int → Option ((Int × Int × tyF × tyH × tyS × List Int × Int) ⊕ (Int × Int × tyF × tyH × tyS × List Int × Int))
 | 0, _, _, _, _, _, _, _, _, _, _ => none
 | n + 1, p0, p1, p2, p3, p4, p5, p6, p7, p8, p9 =>
 bif (decide (p3 < p2)) then
 bif ((decide ((0 : Int) ≤ p3)) && (decide (p3 < (p0.length : Int)))) then
 (f_impl_NodeOk_2 ((p0.getD p3.toNat ([], 0, [], false, 0, false, 0, [])).1) ((p0.getD p3.toNat ([], 0, [], false, 0, false, 0, [])).2.1) ((p0.getD p3.toNat ([], 0, [], false, 0, false, 0, [])).2.2.1) ((p0.getD p3.toNat ([], 0, [], false, 0, false, 0, [])).2.2.2.1) ((p0.getD p3.toNat ([], 0, [], false, 0, false, 0, [])).2.2.2.2.1) ((p0.getD p3.toNat ([], 0, [], false, 0, false, 0, [])).2.2.2.2.2.1) ((p0.getD p3.toNat ([], 0, [], false, 0, false, 0, [])).2.2.2.2.2.2.1) ((p0.getD p3.toNat ([], 0, [], false, 0, false, 0, [])).2.2.2.2.2.2.2) p9).bind fun y10 =>
 bif y10 then
 some (.inl (p3, p4, p5, p6, p7, p8, p9))
 else
 f_impl_NodeOk.l1 n p0 p1 p2 (IntKind.wrap .i64 (p3 + (1 : Int))) p4 p5 p6 p7 p8 p9
 else none
 else
 some (.inr (p1, p4, p5, p6, p7, p8, p9))
noncomputable def f_impl_NodeOk.l0 : Nat → tyF → Int → Int → Int → Int → tyF → tyH → tyS → (List Int) → Int → Option ((Int × Int × tyF × tyH × tyS × List Int × Int) ⊕ (Int × Int × tyF × tyH × tyS × List Int × Int))
 | 0, _, _, _, _, _, _, _, _, _, _ => none
 | n + 1, p0, p1, p2, p3, p4, p5, p6, p7, p8, p9 =>
 bif (decide (p3 < p2)) then
 bif ((decide ((0 : Int) ≤ p3)) && (decide (p3 < (p0.length : Int)))) then
 (f_impl_NodeOk_1 ((p0.getD p3.toNat (0, [], false)).1) ((p0.getD p3.toNat (0, [], false)).2.1) ((p0.getD p3.toNat (0, [], false)).2.2)).bind fun y10 =>
 bif y10 then
 some (.inl (p3, p4, p5, p6, p7, p8, p9))
 else
 f_impl_NodeOk.l0 n p0 p1 p2 (IntKind.wrap .i64 (p3 + (1 : Int))) p4 p5 p6 p7 p8 p9
 else none
 else
 some (.inr (p1, p4, p5, p6, p7, p8, p9))
noncomputable def f_impl_NodeOk (x0 : Int) (x1 : tyF) (x2 : tyH) (x3 : tyS) (x4 : List Int) (x5 : Int) : Option (Bool) :=
 (f_impl_isOf x0 x5).bind fun y0 =>
 bif y0 then
 bif (decide ((x1.length : Int) = (6 : Int))) then
 bif (decide ((x2.length : Int) = (6 : Int))) then
 bif (decide ((x3.length : Int) = x5)) then
 bif (decide ((x4.length : Int) = x5)) then
 (f_impl_NodeOk.l0 N x1 0 (x1.length : Int) 0 x0 x1 x2 x3 x4 x5).bind fun r1 =>
 cs r1 (fun a2 =>
 bif (!(decide ((0 : Int) ≤ a2.1))) then
 (f_impl_NodeOk.l1 N a2.2.2.2.1 0 (a2.2.2.2.1.length : Int) 0 a2.2.1 a2.2.2.1 a2.2.2.2.1 a2.2.2.2.2.1 a2.2.2.2.2.2.1 a2.2.2.2.2.2.2).bind fun r3 =>
 cs r3 (fun a4 =>
 bif (!(decide ((0 : Int) ≤ a4.1))) then
 (f_impl_NodeOk.l2 N a4.2.2.2.2.1 0 (a4.2.2.2.2.1.length : Int) 0 a4.2.1 a4.2.2.1 a4.2.2.2.1 a4.2.2.2.2.1 a4.2.2.2.2.2.1 a4.2.2.2.2.2.2).bind fun r5 =>
 cs r5 (fun a6 =>
 bif (!(decide ((0 : Int) ≤ a6.1))) then
 (f_impl_NodeOk.l3 N a6.2.2.2.2.2.1 0 (a6.2.2.2.2.2.1.length : Int) 0 a6.2.1 a6.2.2.1 a6.2.2.2.1 a6.2.2.2.2.1 a6.2.2.2.2.2.1 a6.2.2.2.2.2.2).bind fun r7 =>
 cs r7 (fun a8 =>
 some (!(decide ((0 : Int) ≤ a8.1)))) (fun b9 =>
 some true)
 else
 some false) (fun b10 =>
 (f_impl_NodeOk.l4 N b10.2.2.2.2.2.1 0 (b10.2.2.2.2.2.1.length : Int) 0 b10.2.1 b10.2.2.1 b10.2.2.2.1 b10.2.2.2.2.1 b10.2.2.2.2.2.1 b10.2.2.2.2.2.2).bind fun r11 =>
 cs r11 (fun a12 =>
 some (!(decide ((0 : Int) ≤ a12.1)))) (fun b13 =>
 some true))
 else
 some false) (fun b14 =>
 (f_impl_NodeOk.l5 N b14.2.2.2.2.1 0 (b14.2.2.2.2.1.length : Int) 0 b14.2.1 b14.2.2.1 b14.2.2.2.1 b14.2.2.2.2.1 b14.2.2.2.2.2.1 b14.2.2.2.2.2.2).bind fun r15 =>
 cs r15 (fun a16 =>
 bif (!(decide ((0 : Int) ≤ a16.1))) then
 (f_impl_NodeOk.l4 N a16.2.2.2.2.2.1 0 (a16.2.2.2.2.2.1.length : Int) 0 a16.2.1 a16.2.2.1 a16.2.2.2.1 a16.2.2.2.2.1 a16.2.2.2.2.2.1 a16.2.2.2.2.2.2).bind fun r17 =>
 cs r17 (fun a18 =>
 some (!(decide ((0 : Int) ≤ a18.1)))) (fun b19 =>
 some true)
 else
 some false) (fun b20 =>
 (f_impl_NodeOk.l6 N b20.2.2.2.2.2.1 0 (b20.2.2.2.2.2.1.length : Int) 0 b20.2.1 b20.2.2.1 b20.2.2.2.1 b20.2.2.2.2.1 b20.2.2.2.2.2.1 b20.2.2.2.2.2.2).bind fun r21 =>
 cs r21 (fun a22 =>
 some (!(decide ((0 : Int) ≤ a22.1)))) (fun b23 =>
 some true)))
 else
 some false) (fun b24 =>
 (f_impl_NodeOk.l7 N b24.2.2.2.1 0 (b24.2.2.2.1.length : Int) 0 b24.2.1 b24.2.2.1 b24.2.2.2.1 b24.2.2.2.2.1 b24.2.2.2.2.2.1 b24.2.2.2.2.2.2).bind fun r25 =>
 cs r25 (fun a26 =>
 bif (!(decide ((0 : Int) ≤ a26.1))) then
 (f_impl_NodeOk.l5 N a26.2.2.2.2.1 0 (a26.2.2.2.2.1.length : Int) 0 a26.2.1 a26.2.2.1 a26.2.2.2.1 a26.2.2.2.2.1 a26.2.2.2.2.2.1 a26.2.2.2.2.2.2).bind fun r27 =>
 cs r27 (fun a28 =>
 bif (!(decide ((0 : Int) ≤ a28.1))) then
 (f_impl_NodeOk.l4 N a28.2.2.2.2.2.1 0 (a28.2.2.2.2.2.1.length : Int) 0 a28.2.1 a28.2.2.1 a28.2.2.2.1 a28.2.2.2.2.1 a28.2.2.2.2.2.1 a28.2.2.2.2.2.2).bind fun r29 =>
 cs r29 (fun a30 =>
 some (!(decide ((0 : Int) ≤ a30.1)))) (fun b31 =>
 some true)
 else
 some false) (fun b32 =>
 (f_impl_NodeOk.l6 N b32.2.2.2.2.2.1 0 (b32.2.2.2.2.2.1.length : Int) 0 b32.2.1 b32.2.2.1 b32.2.2.2.1 b32.2.2.2.2.1 b32.2.2.2.2.2.1 b32.2.2.2.2.2.2).bind fun r33 =>
 cs r33 (fun a34 =>
 some (!(decide ((0 : Int) ≤ a34.1)))) (fun b35 =>
 some true))
 else
 some false) (fun b36 =>
 (f_impl_NodeOk.l8 N b36.2.2.2.2.1 0 (b36.2.2.2.2.1.length : Int) 0 b36.2.1 b36.2.2.1 b36.2.2.2.1 b36.2.2.2.2.1 b36.2.2.2.2.2.1 b36.2.2.2.2.2.2).bind fun r37 =>
 cs r37 (fun a38 =>
 bif (!(decide ((0 : Int) ≤ a38.1))) then
 (f_impl_NodeOk.l6 N a38.2.2.2.2.2.1 0 (a38.2.2.2.2.2.1.length : Int) 0 a38.2.1 a38.2.2.1 a38.2.2.2.1 a38.2.2.2.2.1 a38.2.2.2.2.2.1 a38.2.2.2.2.2.2).bind fun r39 =>
 cs r39 (fun a40 =>
 some (!(decide ((0 : Int) ≤ a40.1)))) (fun b41 =>
 some true)
 else
 some false) (fun b42 =>
 (f_impl_NodeOk.l9 N b42.2.2.2.2.2.1 0 (b42.2.2.2.2.2.1.length : Int) 0 b42.2.1 b42.2.2.1 b42.2.2.2.1 b42.2.2.2.2.1 b42.2.2.2.2.2.1 b42.2.2.2.2.2.2).bind fun r43 =>
 cs r43 (fun a44 =>
 some (!(decide ((0 : Int) ≤ a44.1)))) (fun b45 =>
 some true))))
 else
 some false
 else
 some false
 else
 some false
 else
 some false
 else
 some false
noncomputable def C47 : Con := ⟨[(.B, true, [iI, (.sl R4), (.sl R5), (.sl R7), (.sl R1)]), (.B, false, [iI])], [(false, [.bool])], [iI, (.sl R4), (.sl R5), (.sl R7), (.sl R1), iI], [.bool], fun (p : Int × tyF × tyH × tyS × List Int × Int) => f_impl_NodeOk p.1 p.2.1 p.2.2.1 p.2.2.2.1 p.2.2.2.2.1 p.2.2.2.2.2⟩
noncomputable abbrev f_impl_NodeOk.l0.u (n : Nat) := fun (p : tyF × Int × Int × Int × Int × tyF × tyH × tyS × List Int × Int) => f_impl_NodeOk.l0 n p.1 p.2.1 p.2.2.1 p.2.2.2.1 p.2.2.2.2.1 p.2.2.2.2.2.1 p.2.2.2.2.2.2.1 p.2.2.2.2.2.2.2.1 p.2.2.2.2.2.2.2.2.1 p.2.2.2.2.2.2.2.2.2
noncomputable def f_impl_NodeOk.l0.c : LoopCon := ⟨2046, 4, [0, 1, 4, 7, 8], ⟨[(0, bN R4), (1, .func 119 []), (4, i0), (7, i0), (8, i0)], [(1006, .box [i0, .bor (some 1) R4 [], .bor (some 2) R5 [], .bor (some 3) R7 [], .bor (some 4) R1 []]), (1022, .box [i0])], 2046⟩, [(.sl R4), iI, iI, iI, iI, (.sl R4), (.sl R5), (.sl R7), (.sl R1), iI], [⟨.ret, [4], ⟨[(4, i0)], [(1006, .box [i0, .bor (some 1) R4 [], .bor (some 2) R5 [], .bor (some 3) R7 [], .bor (some 4) R1 []]), (1022, .box [i0])], 2046⟩, [iI, iI, (.sl R4), (.sl R5), (.sl R7), (.sl R1), iI]⟩, ⟨.exit 0, [4], ⟨[(4, i0)], [(1006, .box [i0, .bor (some 1) R4 [], .bor (some 2) R5 [], .bor (some 3) R7 [], .bor (some 4) R1 []]), (1022, .box [i0])], 2046⟩, [iI, iI, (.sl R4), (.sl R5), (.sl R7), (.sl R1), iI]⟩], f_impl_NodeOk.l0.u N⟩
noncomputable abbrev f_impl_NodeOk.l1.u (n : Nat) := fun (p : tyH × Int × Int × Int × Int × tyF × tyH × tyS × List Int × Int) => f_impl_NodeOk.l1 n p.1 p.2.1 p.2.2.1 p.2.2.2.1 p.2.2.2.2.1 p.2.2.2.2.2.1 p.2.2.2.2.2.2.1 p.2.2.2.2.2.2.2.1 p.2.2.2.2.2.2.2.2.1 p.2.2.2.2.2.2.2.2.2
noncomputable def f_impl_NodeOk.l1.c : LoopCon := ⟨2142, 4, [0, 1, 4, 7, 8], ⟨[(0, bN R5), (1, .func 122 [.ptr 1022 0]), (4, i0), (7, i0), (8, i0)], [(1006, .box [i0, .bor (some 1) R4 [], .bor (some 2) R5 [], .bor (some 3) R7 [], .bor (some 4) R1 []]), (1022, .box [i0])], 2142⟩, [(.sl R5), iI, iI, iI, iI, (.sl R4), (.sl R5), (.sl R7), (.sl R1), iI], [⟨.ret, [4], ⟨[(4, i0)], [(1006, .box [i0, .bor (some 1) R4 [], .bor (some 2) R5 [], .bor (some 3) R7 [], .bor (some 4) R1 []]), (1022, .box [i0])], 2142⟩, [iI, iI, (.sl R4), (.sl R5), (.sl R7), (.sl R1), iI]⟩, ⟨.exit 0, [4], ⟨[(4, i0)], [(1006, .box [i0, .bor (some 1) R4 [], .bor (some 2) R5 [], .bor (some 3) R7 [], .bor (some 4) R1 []]), (1022, .box [i0])], 2142⟩, [iI, iI, (.sl R4), (.sl R5), (.sl R7), (.sl R1), iI]⟩], f_impl_NodeOk.l1.u N⟩
noncomputable abbrev f_impl_NodeOk.l2.u (n : Nat) := fun (p : tyS × Int × Int × Int × Int × tyF × tyH × tyS × List Int × Int) => f_impl_NodeOk.l2 n p.1 p.2.1 p.2.2.1 p.2.2.2.1 p.2.2.2.2.1 p.2.2.2.2.2.1 p.2.2.2.2.2.2.1 p.2.2.2.2.2.2.2.1 p.2.2.2.2.2.2.2.2.1 p.2.2.2.2.2.2.2.2.2
noncomputable def f_impl_NodeOk.l2.c : LoopCon := ⟨2238, 4, [0, 1, 4, 7, 8], ⟨[(0, bN R7), (1, .func 125 []), (4, i0), (7, i0), (8, i0)], [(1006, .box [i0, .bor (some 1) R4 [], .bor (some 2) R5 [], .bor (some 3) R7 [], .bor (some 4) R1 []]), (1022, .box [i0])], 2238⟩, [(.sl R7), iI, iI, iI, iI, (.sl R4), (.sl R5), (.sl R7), (.sl R1), iI], [⟨.ret, [4], ⟨[(4, i0)], [(1006, .box [i0, .bor (some 1) R4 [], .bor (some 2) R5 [], .bor (some 3) R7 [], .bor (some 4) R1 []]), (1022, .box [i0])], 2238⟩, [iI, iI, (.sl R4), (.sl R5), (.sl R7), (.sl R1), iI]⟩, ⟨.exit 0, [4], ⟨[(4, i0)], [(1006, .box [i0, .bor (some 1) R4 [], .bor (some 2) R5 [], .bor (some 3) R7 [], .bor (some 4) R1 []]), (1022, .box [i0])], 2238⟩, [iI, iI, (.sl R4), (.sl R5), (.sl R7), (.sl R1), iI]⟩], f_impl_NodeOk.l2.u N⟩
noncomputable abbrev f_impl_NodeOk.l3.u (n : Nat) := fun (p : List Int × Int × Int × Int × Int × tyF × tyH × tyS × List Int × Int) => f_impl_NodeOk.l3 n p.1 p.2.1 p.2.2.1 p.2.2.2.1 p.2.2.2.2.1 p.2.2.2.2.2.1 p.2.2.2.2.2.2.1 p.2.2.2.2.2.2.2.1 p.2.2.2.2.2.2.2.2.1 p.2.2.2.2.2.2.2.2.2
noncomputable def f_impl_NodeOk.l3.c : LoopCon := ⟨2334, 4, [0, 1, 4, 7, 8], ⟨[(0, bN R1), (1, .func 128 []), (4, i0), (7, i0), (8, i0)], [(1006, .box [i0, .bor (some 1) R4 [], .bor (some 2) R5 [], .bor (some 3) R7 [], .bor (some 4) R1 []]), (1022, .box [i0])], 2334⟩, [(.sl R1), iI, iI, iI, iI, (.sl R4), (.sl R5), (.sl R7), (.sl R1), iI], [⟨.ret, [4], ⟨[(4, i0)], [(1006, .box [i0, .bor (some 1) R4 [], .bor (some 2) R5 [], .bor (some 3) R7 [], .bor (some 4) R1 []]), (1022, .box [i0])], 2334⟩, [iI, iI, (.sl R4), (.sl R5), (.sl R7), (.sl R1), iI]⟩, ⟨.exit 0, [4], ⟨[(4, i0)], [(1006, .box [i0, .bor (some 1) R4 [], .bor (some 2) R5 [], .bor (some 3) R7 [], .bor (some 4) R1 []]), (1022, .box [i0])], 2334⟩, [iI, iI, (.sl R4), (.sl R5), (.sl R7), (.sl R1), iI]⟩], f_impl_NodeOk.l3.u N⟩
noncomputable abbrev f_impl_NodeOk.l4.u (n : Nat) := fun (p : List Int × Int × Int × Int × Int × tyF × tyH × tyS × List Int × Int) => f_impl_NodeOk.l4 n p.1 p.2.1 p.2.2.1 p.2.2.2.1 p.2.2.2.2.1 p.2.2.2.2.2.1 p.2.2.2.2.2.2.1 p.2.2.2.2.2.2.2.1 p.2.2.2.2.2.2.2.2.1 p.2.2.2.2.2.2.2.2.2
noncomputable def f_impl_NodeOk.l4.c : LoopCon := ⟨2350, 4, [0, 1, 4, 7, 8], ⟨[(0, bN R1), (1, .func 128 []), (4, i0), (7, i0), (8, i0)], [(1006, .box [i0, .bor (some 1) R4 [], .bor (some 2) R5 [], .bor (some 3) R7 [], .bor (some 4) R1 []]), (1022, .box [i0])], 2350⟩, [(.sl R1), iI, iI, iI, iI, (.sl R4), (.sl R5), (.sl R7), (.sl R1), iI], [⟨.ret, [4], ⟨[(4, i0)], [(1006, .box [i0, .bor (some 1) R4 [], .bor (some 2) R5 [], .bor (some 3) R7 [], .bor (some 4) R1 []]), (1022, .box [i0])], 2350⟩, [iI, iI, (.sl R4), (.sl R5), (.sl R7), (.sl R1), iI]⟩, ⟨.exit 0, [4], ⟨[(4, i0)], [(1006, .box [i0, .bor (some 1) R4 [], .bor (some 2) R5 [], .bor (some 3) R7 [], .bor (some 4) R1 []]), (1022, .box [i0])], 2350⟩, [iI, iI, (.sl R4), (.sl R5), (.sl R7), (.sl R1), iI]⟩], f_impl_NodeOk.l4.u N⟩
noncomputable abbrev f_impl_NodeOk.l5.u (n : Nat) := fun (p : tyS × Int × Int × Int × Int × tyF × tyH × tyS × List Int × Int) => f_impl_NodeOk.l5 n p.1 p.2.1 p.2.2.1 p.2.2.2.1 p.2.2.2.2.1 p.2.2.2.2.2.1 p.2.2.2.2.2.2.1 p.2.2.2.2.2.2.2.1 p.2.2.2.2.2.2.2.2.1 p.2.2.2.2.2.2.2.2.2
noncomputable def f_impl_NodeOk.l5.c : LoopCon := ⟨2254, 4, [0, 1, 4, 7, 8], ⟨[(0, bN R7), (1, .func 125 []), (4, i0), (7, i0), (8, i0)], [(1006, .box [i0, .bor (some 1) R4 [], .bor (some 2) R5 [], .bor (some 3) R7 [], .bor (some 4) R1 []]), (1022, .box [i0])], 2254⟩, [(.sl R7), iI, iI, iI, iI, (.sl R4), (.sl R5), (.sl R7), (.sl R1), iI], [⟨.ret, [4], ⟨[(4, i0)], [(1006, .box [i0, .bor (some 1) R4 [], .bor (some 2) R5 [], .bor (some 3) R7 [], .bor (some 4) R1 []]), (1022, .box [i0])], 2254⟩, [iI, iI, (.sl R4), (.sl R5), (.sl R7), (.sl R1), iI]⟩, ⟨.exit 0, [4], ⟨[(4, i0)], [(1006, .box [i0, .bor (some 1) R4 [], .bor (some 2) R5 [], .bor (some 3) R7 [], .bor (some 4) R1 []]), (1022, .box [i0])], 2254⟩, [iI, iI, (.sl R4), (.sl R5), (.sl R7), (.sl R1), iI]⟩], f_impl_NodeOk.l5.u N⟩
noncomputable abbrev f_impl_NodeOk.l6.u (n : Nat) := fun (p : List Int × Int × Int × Int × Int × tyF × tyH × tyS × List Int × Int) => f_impl_NodeOk.l6 n p.1 p.2.1 p.2.2.1 p.2.2.2.1 p.2.2.2.2.1 p.2.2.2.2.2.1 p.2.2.2.2.2.2.1 p.2.2.2.2.2.2.2.1 p.2.2.2.2.2.2.2.2.1 p.2.2.2.2.2.2.2.2.2
noncomputable def f_impl_NodeOk.l6.c : LoopCon := ⟨2366, 4, [0, 1, 4, 7, 8], ⟨[(0, bN R1), (1, .func 128 []), (4, i0), (7, i0), (8, i0)], [(1006, .box [i0, .bor (some 1) R4 [], .bor (some 2) R5 [], .bor (some 3) R7 [], .bor (some 4) R1 []]), (1022, .box [i0])], 2366⟩, [(.sl R1), iI, iI, iI, iI, (.sl R4), (.sl R5), (.sl R7), (.sl R1), iI], [⟨.ret, [4], ⟨[(4, i0)], [(1006, .box [i0, .bor (some 1) R4 [], .bor (some 2) R5 [], .bor (some 3) R7 [], .bor (some 4) R1 []]), (1022, .box [i0])], 2366⟩, [iI, iI, (.sl R4), (.sl R5), (.sl R7), (.sl R1), iI]⟩, ⟨.exit 0, [4], ⟨[(4, i0)], [(1006, .box [i0, .bor (some 1) R4 [], .bor (some 2) R5 [], .bor (some 3) R7 [], .bor (some 4) R1 []]), (1022, .box [i0])], 2366⟩, [iI, iI, (.sl R4), (.sl R5), (.sl R7), (.sl R1), iI]⟩], f_impl_NodeOk.l6.u N⟩
noncomputable abbrev f_impl_NodeOk.l7.u (n : Nat) := fun (p : tyH × Int × Int × Int × Int × tyF × tyH × tyS × List Int × Int) => f_impl_NodeOk.l7 n p.1 p.2.1 p.2.2.1 p.2.2.2.1 p.2.2.2.2.1 p.2.2.2.2.2.1 p.2.2.2.2.2.2.1 p.2.2.2.2.2.2.2.1 p.2.2.2.2.2.2.2.2.1 p.2.2.2.2.2.2.2.2.2
noncomputable def f_impl_NodeOk.l7.c : LoopCon := ⟨2158, 4, [0, 1, 4, 7, 8], ⟨[(0, bN R5), (1, .func 122 [.ptr 1022 0]), (4, i0), (7, i0), (8, i0)], [(1006, .box [i0, .bor (some 1) R4 [], .bor (some 2) R5 [], .bor (some 3) R7 [], .bor (some 4) R1 []]), (1022, .box [i0])], 2158⟩, [(.sl R5), iI, iI, iI, iI, (.sl R4), (.sl R5), (.sl R7), (.sl R1), iI], [⟨.ret, [4], ⟨[(4, i0)], [(1006, .box [i0, .bor (some 1) R4 [], .bor (some 2) R5 [], .bor (some 3) R7 [], .bor (some 4) R1 []]), (1022, .box [i0])], 2158⟩, [iI, iI, (.sl R4), (.sl R5), (.sl R7), (.sl R1), iI]⟩, ⟨.exit 0, [4], ⟨[(4, i0)], [(1006, .box [i0, .bor (some 1) R4 [], .bor (some 2) R5 [], .bor (some 3) R7 [], .bor (some 4) R1 []]), (1022, .box [i0])], 2158⟩, [iI, iI, (.sl R4), (.sl R5), (.sl R7), (.sl R1), iI]⟩], f_impl_NodeOk.l7.u N⟩
noncomputable abbrev f_impl_NodeOk.l8.u (n : Nat) := fun (p : tyS × Int × Int × Int × Int × tyF × tyH × tyS × List Int × Int) => f_impl_NodeOk.l8 n p.1 p.2.1 p.2.2.1 p.2.2.2.1 p.2.2.2.2.1 p.2.2.2.2.2.1 p.2.2.2.2.2.2.1 p.2.2.2.2.2.2.2.1 p.2.2.2.2.2.2.2.2.1 p.2.2.2.2.2.2.2.2.2
noncomputable def f_impl_NodeOk.l8.c : LoopCon := ⟨2270, 4, [0, 1, 4, 7, 8], ⟨[(0, bN R7), (1, .func 125 []), (4, i0), (7, i0), (8, i0)], [(1006, .box [i0, .bor (some 1) R4 [], .bor (some 2) R5 [], .bor (some 3) R7 [], .bor (some 4) R1 []]), (1022, .box [i0])], 2270⟩, [(.sl R7), iI, iI, iI, iI, (.sl R4), (.sl R5), (.sl R7), (.sl R1), iI], [⟨.ret, [4], ⟨[(4, i0)], [(1006, .box [i0, .bor (some 1) R4 [], .bor (some 2) R5 [], .bor (some 3) R7 [], .bor (some 4) R1 []]), (1022, .box [i0])], 2270⟩, [iI, iI, (.sl R4), (.sl R5), (.sl R7), (.sl R1), iI]⟩, ⟨.exit 0, [4], ⟨[(4, i0)], [(1006, .box [i0, .bor (some 1) R4 [], .bor (some 2) R5 [], .bor (some 3) R7 [], .bor (some 4) R1 []]), (1022, .box [i0])], 2270⟩, [iI, iI, (.sl R4), (.sl R5), (.sl R7), (.sl R1), iI]⟩], f_impl_NodeOk.l8.u N⟩
noncomputable abbrev f_impl_NodeOk.l9.u (n : Nat) := fun (p : List Int × Int × Int × Int × Int × tyF × tyH × tyS × List Int × Int) => f_impl_NodeOk.l9 n p.1 p.2.1 p.2.2.1 p.2.2.2.1 p.2.2.2.2.1 p.2.2.2.2.2.1 p.2.2.2.2.2.2.1 p.2.2.2.2.2.2.2.1 p.2.2.2.2.2.2.2.2.1 p.2.2.2.2.2.2.2.2.2
noncomputable def f_impl_NodeOk.l9.c : LoopCon := ⟨2382, 4, [0, 1, 4, 7, 8], ⟨[(0, bN R1), (1, .func 128 []), (4, i0), (7, i0), (8, i0)], [(1006, .box [i0, .bor (some 1) R4 [], .bor (some 2) R5 [], .bor (some 3) R7 [], .bor (some 4) R1 []]), (1022, .box [i0])], 2382⟩, [(.sl R1), iI, iI, iI, iI, (.sl R4), (.sl R5), (.sl R7), (.sl R1), iI], [⟨.ret, [4], ⟨[(4, i0)], [(1006, .box [i0, .bor (some 1) R4 [], .bor (some 2) R5 [], .bor (some 3) R7 [], .bor (some 4) R1 []]), (1022, .box [i0])], 2382⟩, [iI, iI, (.sl R4), (.sl R5), (.sl R7), (.sl R1), iI]⟩, ⟨.exit 0, [4], ⟨[(4, i0)], [(1006, .box [i0, .bor (some 1) R4 [], .bor (some 2) R5 [], .bor (some 3) R7 [], .bor (some 4) R1 []]), (1022, .box [i0])], 2382⟩, [iI, iI, (.sl R4), (.sl R5), (.sl R7), (.sl R1), iI]⟩], f_impl_NodeOk.l9.u N⟩
noncomputable abbrev K47 : Cons := [(100, C100), (119, C119), (122, C122), (125, C125), (128, C128)]
noncomputable abbrev L47 : List (Nat × Loops) := [(185, [(2, f_impl_NodeOk.l0.c)]), (186, [(2, f_impl_NodeOk.l1.c), (2, f_impl_NodeOk.l7.c)]), (189, [(2, f_impl_NodeOk.l2.c), (2, f_impl_NodeOk.l5.c), (2, f_impl_NodeOk.l8.c)]), (192, [(2, f_impl_NodeOk.l3.c), (2, f_impl_NodeOk.l4.c), (2, f_impl_NodeOk.l6.c), (2, f_impl_NodeOk.l9.c)])]
abbrev Q47 : List (Nat × List (Int × Nat) × Nat) := []
noncomputable abbrev X47 : Nat → Ctx := ctxOf tb K47 L47 Q47
theorem f_impl_NodeOk.l0.ok : ∀ n p, f_impl_NodeOk.l0.u n p = iterD (roundOf fs X47 4 185 2 true f_impl_NodeOk.l0.c) n p :=
 iter_of (l := f_impl_NodeOk.l0.u) (fun _ => rfl) (fun n p => by kernel_rfl)
theorem f_impl_NodeOk.l1.ok : ∀ n p, f_impl_NodeOk.l1.u n p = iterD (roundOf fs X47 4 186 2 true f_impl_NodeOk.l1.c) n p :=
 iter_of (l := f_impl_NodeOk.l1.u) (fun _ => rfl) (fun n p => by kernel_rfl)
theorem f_impl_NodeOk.l2.ok : ∀ n p, f_impl_NodeOk.l2.u n p = iterD (roundOf fs X47 4 189 2 true f_impl_NodeOk.l2.c) n p :=
 iter_of (l := f_impl_NodeOk.l2.u) (fun _ => rfl) (fun n p => by kernel_rfl)
theorem f_impl_NodeOk.l3.ok : ∀ n p, f_impl_NodeOk.l3.u n p = iterD (roundOf fs X47 4 192 2 true f_impl_NodeOk.l3.c) n p :=
 iter_of (l := f_impl_NodeOk.l3.u) (fun _ => rfl) (fun n p => by kernel_rfl)
theorem f_impl_NodeOk.l4.ok : ∀ n p, f_impl_NodeOk.l4.u n p = iterD (roundOf fs X47 4 192 2 true f_impl_NodeOk.l4.c) n p :=
 iter_of (l := f_impl_NodeOk.l4.u) (fun _ => rfl) (fun n p => by kernel_rfl)
theorem f_impl_NodeOk.l5.ok : ∀ n p, f_impl_NodeOk.l5.u n p = iterD (roundOf fs X47 4 189 2 true f_impl_NodeOk.l5.c) n p :=
 iter_of (l := f_impl_NodeOk.l5.u) (fun _ => rfl) (fun n p => by kernel_rfl)
theorem f_impl_NodeOk.l6.ok : ∀ n p, f_impl_NodeOk.l6.u n p = iterD (roundOf fs X47 4 192 2 true f_impl_NodeOk.l6.c) n p :=
 iter_of (l := f_impl_NodeOk.l6.u) (fun _ => rfl) (fun n p => by kernel_rfl)
theorem f_impl_NodeOk.l7.ok : ∀ n p, f_impl_NodeOk.l7.u n p = iterD (roundOf fs X47 4 186 2 true f_impl_NodeOk.l7.c) n p :=
 iter_of (l := f_impl_NodeOk.l7.u) (fun _ => rfl) (fun n p => by kernel_rfl)
theorem f_impl_NodeOk.l8.ok : ∀ n p, f_impl_NodeOk.l8.u n p = iterD (roundOf fs X47 4 189 2 true f_impl_NodeOk.l8.c) n p :=
 iter_of (l := f_impl_NodeOk.l8.u) (fun _ => rfl) (fun n p => by kernel_rfl)
theorem f_impl_NodeOk.l9.ok : ∀ n p, f_impl_NodeOk.l9.u n p = iterD (roundOf fs X47 4 192 2 true f_impl_NodeOk.l9.c) n p :=
 iter_of (l := f_impl_NodeOk.l9.u) (fun _ => rfl) (fun n p => by kernel_rfl)
theorem E47 : ∀ x, funRun fs X47 6 47 C47 x = C47.fn x := fun x => by kernel_rfl
theorem B47 : ConB Tryz.prog 47 C47 := ConB.make FS MIX TY (cons := K47) (L := L47) (ptrs := Q47) ⟨S100, S119, S122, S125, S128, trivial⟩ trivial ⟨⟨⟨N, fun p => f_impl_NodeOk.l0.ok N p⟩, trivial⟩, ⟨⟨N, fun p => f_impl_NodeOk.l1.ok N p⟩, ⟨N, fun p => f_impl_NodeOk.l7.ok N p⟩, trivial⟩, ⟨⟨N, fun p => f_impl_NodeOk.l2.ok N p⟩, ⟨N, fun p => f_impl_NodeOk.l5.ok N p⟩, ⟨N, fun p => f_impl_NodeOk.l8.ok N p⟩, trivial⟩, ⟨⟨N, fun p => f_impl_NodeOk.l3.ok N p⟩, ⟨N, fun p => f_impl_NodeOk.l4.ok N p⟩, ⟨N, fun p => f_impl_NodeOk.l6.ok N p⟩, ⟨N, fun p => f_impl_NodeOk.l9.ok N p⟩, trivial⟩, trivial⟩ rfl rfl E47
theorem S47 : ConS Tryz.prog 47 C47 := B47.call rfl
noncomputable def f_slices_Clone_impl_Receiver_impl_Receiver (x0 : List Int) : Option (List Int) := bif Nat.blt (0 + x0.length) 17592186044416 then some x0 else none
noncomputable def C159 : Con := ⟨[(.B, false, [(.sl R1)])], [(false, [(.sl R1)])], [(.sl R1)], [(.sl R1)], f_slices_Clone_impl_Receiver_impl_Receiver⟩
noncomputable abbrev X159 : Nat → Ctx := ctxOf tb [] [] []
theorem E159 : ∀ x : List R1.den, bodyRun fs X159 6 159 C159 [] [] [.bor (some 1000) R1 x] [] = f_slices_Clone_impl_Receiver_impl_Receiver x := fun x => by kernel_rfl
theorem Z159 : bodyRun fs X159 6 159 C159 [] [] [.nil (some R1)] [] = f_slices_Clone_impl_Receiver_impl_Receiver ([] : List R1.den) := by kernel_rfl
theorem B159 : ConB Tryz.prog 159 C159 := ConB.copy FS MIX TY (cons := []) (L := []) (ptrs := []) trivial trivial trivial rfl E159 Z159
theorem S159 : ConS Tryz.prog 159 C159 := B159.call rfl
noncomputable def f_slices_Clone_int_int (x0 : List Int) : Option (List Int) := bif Nat.blt (0 + x0.length) 17592186044416 then some x0 else none
noncomputable def C146 : Con := ⟨[(.B, false, [(.sl R1)])], [(false, [(.sl R1)])], [(.sl R1)], [(.sl R1)], f_slices_Clone_int_int⟩
noncomputable abbrev X146 : Nat → Ctx := ctxOf tb [] [] []
theorem E146 : ∀ x : List R1.den, bodyRun fs X146 6 146 C146 [] [] [.bor (some 1000) R1 x] [] = f_slices_Clone_int_int x := fun x => by kernel_rfl
theorem Z146 : bodyRun fs X146 6 146 C146 [] [] [.nil (some R1)] [] = f_slices_Clone_int_int ([] : List R1.den) := by kernel_rfl
theorem B146 : ConB Tryz.prog 146 C146 := ConB.copy FS MIX TY (cons := []) (L := []) (ptrs := []) trivial trivial trivial rfl E146 Z146
theorem S146 : ConS Tryz.prog 146 C146 := B146.call rfl
noncomputable def f_impl_copyFrame (x0 : Int) (x1 : List Int) (x2 : Bool) : Option (Int × List Int × Bool) :=
 (f_slices_Clone_int_int x1).bind fun y0 =>
 some (x0, y0, x2)
noncomputable def C160 : Con := ⟨[(.B, true, [iI, (.sl R1), .bool])], [(true, [iI, (.sl R1), .bool])], [iI, (.sl R1), .bool], [iI, (.sl R1), .bool], fun (p : Int × List Int × Bool) => f_impl_copyFrame p.1 p.2.1 p.2.2⟩
noncomputable abbrev K160 : Cons := [(146, C146)]
noncomputable abbrev L160 : List (Nat × Loops) := []
abbrev Q160 : List (Nat × List (Int × Nat) × Nat) := []
noncomputable abbrev X160 : Nat → Ctx := ctxOf tb K160 L160 Q160
theorem E160 : ∀ x, funRun fs X160 6 160 C160 x = C160.fn x := fun x => by kernel_rfl
theorem B160 : ConB Tryz.prog 160 C160 := ConB.make FS MIX TY (cons := K160) (L := L160) (ptrs := Q160) ⟨S146, trivial⟩ trivial trivial rfl rfl E160
theorem S160 : ConS Tryz.prog 160 C160 := B160.call rfl
noncomputable def f_slices_Clone_bool_bool (x0 : List Bool) : Option (List Bool) := bif Nat.blt (0 + x0.length) 140737488355328 then some x0 else none
noncomputable def C201 : Con := ⟨[(.B, false, [(.sl R2)])], [(false, [(.sl R2)])], [(.sl R2)], [(.sl R2)], f_slices_Clone_bool_bool⟩
noncomputable abbrev X201 : Nat → Ctx := ctxOf tb [] [] []
theorem E201 : ∀ x : List R2.den, bodyRun fs X201 6 201 C201 [] [] [.bor (some 1000) R2 x] [] = f_slices_Clone_bool_bool x := fun x => by kernel_rfl
theorem Z201 : bodyRun fs X201 6 201 C201 [] [] [.nil (some R2)] [] = f_slices_Clone_bool_bool ([] : List R2.den) := by kernel_rfl
theorem B201 : ConB Tryz.prog 201 C201 := ConB.copy FS MIX TY (cons := []) (L := []) (ptrs := []) trivial trivial trivial rfl E201 Z201
theorem S201 : ConS Tryz.prog 201 C201 := B201.call rfl
noncomputable def f_slices_Clone_impl_Wait_impl_Wait (x0 : tyW) : Option tyW := bif Nat.blt (0 + x0.length) 8796093022208 then some x0 else none
noncomputable def C202 : Con := ⟨[(.B, false, [(.sl R3)])], [(false, [(.sl R3)])], [(.sl R3)], [(.sl R3)], f_slices_Clone_impl_Wait_impl_Wait⟩
noncomputable abbrev X202 : Nat → Ctx := ctxOf tb [] [] []
theorem E202 : ∀ x : List R3.den, bodyRun fs X202 6 202 C202 [] [] [.bor (some 1000) R3 x] [] = f_slices_Clone_impl_Wait_impl_Wait x := fun x => by kernel_rfl
theorem Z202 : bodyRun fs X202 6 202 C202 [] [] [.nil (some R3)] [] = f_slices_Clone_impl_Wait_impl_Wait ([] : List R3.den) := by kernel_rfl
theorem B202 : ConB Tryz.prog 202 C202 := ConB.copy FS MIX TY (cons := []) (L := []) (ptrs := []) trivial trivial trivial rfl E202 Z202
theorem S202 : ConS Tryz.prog 202 C202 := B202.call rfl
noncomputable def f_impl_copyHome (x0 : List Int) (x1 : Int) (x2 : List Bool) (x3 : Bool) (x4 : Int) (x5 : Bool) (x6 : Int) (x7 : tyW) : Option (List Int × Int × List Bool × Bool × Int × Bool × Int × tyW) :=
 (f_slices_Clone_int_int x0).bind fun y0 =>
 (f_slices_Clone_bool_bool x2).bind fun y1 =>
 (f_slices_Clone_impl_Wait_impl_Wait x7).bind fun y2 =>
 some (y0, x1, y1, x3, x4, x5, x6, y2)
noncomputable def C161 : Con := ⟨[(.B, true, [(.sl R1), iI, (.sl R2), .bool, iI, .bool, iI, (.sl R3)])], [(true, [(.sl R1), iI, (.sl R2), .bool, iI, .bool, iI, (.sl R3)])], [(.sl R1), iI, (.sl R2), .bool, iI, .bool, iI, (.sl R3)], [(.sl R1), iI, (.sl R2), .bool, iI, .bool, iI, (.sl R3)], fun (p : List Int × Int × List Bool × Bool × Int × Bool × Int × tyW) => f_impl_copyHome p.1 p.2.1 p.2.2.1 p.2.2.2.1 p.2.2.2.2.1 p.2.2.2.2.2.1 p.2.2.2.2.2.2.1 p.2.2.2.2.2.2.2⟩
noncomputable abbrev K161 : Cons := [(146, C146), (201, C201), (202, C202)]
noncomputable abbrev L161 : List (Nat × Loops) := []
abbrev Q161 : List (Nat × List (Int × Nat) × Nat) := []
noncomputable abbrev X161 : Nat → Ctx := ctxOf tb K161 L161 Q161
theorem E161 : ∀ x, funRun fs X161 6 161 C161 x = C161.fn x := fun x => by kernel_rfl
theorem B161 : ConB Tryz.prog 161 C161 := ConB.make FS MIX TY (cons := K161) (L := L161) (ptrs := Q161) ⟨S146, S201, S202, trivial⟩ trivial trivial rfl rfl E161
theorem S161 : ConS Tryz.prog 161 C161 := B161.call rfl
noncomputable def f_impl_copyMsg (x0 : Int) (x1 : Int) (x2 : Bool) (x3 : List Int) : Option (Int × Int × Bool × List Int) :=
 (f_slices_Clone_int_int x3).bind fun y0 =>
 some (x0, x1, x2, y0)
noncomputable def C163 : Con := ⟨[(.B, true, [iI, iI, .bool, (.sl R1)])], [(true, [iI, iI, .bool, (.sl R1)])], [iI, iI, .bool, (.sl R1)], [iI, iI, .bool, (.sl R1)], fun (p : Int × Int × Bool × List Int) => f_impl_copyMsg p.1 p.2.1 p.2.2.1 p.2.2.2⟩
noncomputable abbrev K163 : Cons := [(146, C146)]
noncomputable abbrev L163 : List (Nat × Loops) := []
abbrev Q163 : List (Nat × List (Int × Nat) × Nat) := []
noncomputable abbrev X163 : Nat → Ctx := ctxOf tb K163 L163 Q163
theorem E163 : ∀ x, funRun fs X163 6 163 C163 x = C163.fn x := fun x => by kernel_rfl
theorem B163 : ConB Tryz.prog 163 C163 := ConB.make FS MIX TY (cons := K163) (L := L163) (ptrs := Q163) ⟨S146, trivial⟩ trivial trivial rfl rfl E163
theorem S163 : ConS Tryz.prog 163 C163 := B163.call rfl
noncomputable def f_impl_copySender.l0 : Nat → tyM → Int → Int → Int → Int → tyM → tyM → Option (Int × Int × tyM × tyM)
 | 0, _, _, _, _, _, _, _ => none
 | n + 1, p0, p1, p2, p3, p4, p5, p6 =>
 bif (decide (p2 < p1)) then
 bif ((decide ((0 : Int) ≤ p2)) && (decide (p2 < (p0.length : Int)))) then
 (f_impl_copyMsg ((p0.getD p2.toNat (0, 0, false, [])).1) ((p0.getD p2.toNat (0, 0, false, [])).2.1) ((p0.getD p2.toNat (0, 0, false, [])).2.2.1) ((p0.getD p2.toNat (0, 0, false, [])).2.2.2)).bind fun y7 =>
 bif (Nat.blt (p6.length + ([(y7.1, y7.2.1, y7.2.2.1, y7.2.2.2)] : tyM).length) 2932031007402) then
 (some ((p6 ++ ([(y7.1, y7.2.1, y7.2.2.1, y7.2.2.2)] : tyM)) : tyM)).bind fun z8 =>
 f_impl_copySender.l0 n p0 p1 (IntKind.wrap .i64 (p2 + (1 : Int))) p3 p4 p5 z8
 else none
 else none
 else
 some (p3, p4, p5, p6)
noncomputable def f_impl_copySender (x0 : Int) (x1 : tyM) : Option (Int × tyM) :=
 (f_impl_copySender.l0 N x1 (x1.length : Int) 0 0 x0 ([] : tyM) ([] : tyM)).bind fun r0 =>
 some (r0.2.1, r0.2.2.2)
noncomputable def C162 : Con := ⟨[(.B, true, [iI, (.sl R6)])], [(true, [iI, (.sl R6)])], [iI, (.sl R6)], [iI, (.sl R6)], fun (p : Int × tyM) => f_impl_copySender p.1 p.2⟩
noncomputable abbrev f_impl_copySender.l0.u (n : Nat) := fun (p : tyM × Int × Int × Int × Int × tyM × tyM) => f_impl_copySender.l0 n p.1 p.2.1 p.2.2.1 p.2.2.2.1 p.2.2.2.2.1 p.2.2.2.2.2.1 p.2.2.2.2.2.2
noncomputable def f_impl_copySender.l0.c : LoopCon := ⟨1000, 6, [2, 3, 10, 11, 12], ⟨[(2, .ptr 1000 0), (3, .ptr 1001 0), (10, bN R6), (11, i0), (12, i0)], [(1000, .box [i0, .ref 1002 [] none]), (1001, .box [i0, .ref 1003 [] none]), (1002, .row R6 []), (1003, .row R6 [])], 1004⟩, [(.sl R6), iI, iI, iI, iI, (.sl R6), (.sl R6)], [⟨.exit 0, [2, 3], ⟨[(2, .ptr 1000 0), (3, .ptr 1001 0)], [(1000, .box [i0, .ref 1002 [] none]), (1001, .box [i0, .ref 1003 [] none]), (1002, .row R6 []), (1003, .row R6 [])], 1004⟩, [iI, iI, (.sl R6), (.sl R6)]⟩], f_impl_copySender.l0.u N⟩
noncomputable abbrev K162 : Cons := [(163, C163)]
noncomputable abbrev L162 : List (Nat × Loops) := [(162, [(3, f_impl_copySender.l0.c)])]
abbrev Q162 : List (Nat × List (Int × Nat) × Nat) := []
noncomputable abbrev X162 : Nat → Ctx := ctxOf tb K162 L162 Q162
theorem f_impl_copySender.l0.ok : ∀ n p, f_impl_copySender.l0.u n p = iterD (roundOf fs X162 6 162 3 false f_impl_copySender.l0.c) n p :=
 iter_of (l := f_impl_copySender.l0.u) (fun _ => rfl) (fun n p => by kernel_rfl)
theorem E162 : ∀ x, funRun fs X162 6 162 C162 x = C162.fn x := fun x => by kernel_rfl
theorem B162 : ConB Tryz.prog 162 C162 := ConB.make FS MIX TY (cons := K162) (L := L162) (ptrs := Q162) ⟨S163, trivial⟩ trivial ⟨⟨⟨N, fun p => f_impl_copySender.l0.ok N p⟩, trivial⟩, trivial⟩ rfl rfl E162
theorem S162 : ConS Tryz.prog 162 C162 := B162.call rfl
noncomputable def f_impl_copyNode.l2 : Nat → tyS → Int → Int → Int → Int → tyF → tyH → tyS → (List Int) → tyF → tyH → tyS → (List Int) → Option (Int × Int × tyF × tyH × tyS × List Int × tyF × tyH × tyS × List Int)
 | 0, _, _, _, _, _, _, _, _, _, _, _, _, _ => none
 | n + 1, p0, p1, p2, p3, p4, p5, p6, p7, p8, p9, p10, p11, p12 =>
 bif (decide (p2 < p1)) then
 bif ((decide ((0 : Int) ≤ p2)) && (decide (p2 < (p0.length : Int)))) then
 (f_impl_copySender ((p0.getD p2.toNat (0, [])).1) ((p0.getD p2.toNat (0, [])).2)).bind fun y13 =>
 bif (Nat.blt (p11.length + ([(y13.1, y13.2)] : tyS).length) 4398046511104) then
 (some ((p11 ++ ([(y13.1, y13.2)] : tyS)) : tyS)).bind fun z14 =>
 f_impl_copyNode.l2 n p0 p1 (IntKind.wrap .i64 (p2 + (1 : Int))) p3 p4 p5 p6 p7 p8 p9 p10 z14 p12
 else none
 else none
 else
 some (p3, p4, p5, p6, p7, p8, p9, p10, p11, p12)
noncomputable def f_impl_copyNode.l1 : Nat → tyH → Int → Int → Int → tyF → tyH → tyS → (List Int) → Int → Int → tyF → tyH → tyS → (List Int) → tyF → tyH → tyS → (List Int) → Option (Int × tyF × tyH × tyS × List Int × Int × Int × tyF × tyH × tyS × List Int × tyF × tyH × tyS × List Int)
 | 0, _, _, _, _, _, _, _, _, _, _, _, _, _, _, _, _, _, _ => none
 | n + 1, p0, p1, p2, p3, p4, p5, p6, p7, p8, p9, p10, p11, p12, p13, p14, p15, p16, p17 =>
 bif (decide (p2 < p1)) then
 bif ((decide ((0 : Int) ≤ p2)) && (decide (p2 < (p0.length : Int)))) then
 (f_impl_copyHome ((p0.getD p2.toNat ([], 0, [], false, 0, false, 0, [])).1) ((p0.getD p2.toNat ([], 0, [], false, 0, false, 0, [])).2.1) ((p0.getD p2.toNat ([], 0, [], false, 0, false, 0, [])).2.2.1) ((p0.getD p2.toNat ([], 0, [], false, 0, false, 0, [])).2.2.2.1) ((p0.getD p2.toNat ([], 0, [], false, 0, false, 0, [])).2.2.2.2.1) ((p0.getD p2.toNat ([], 0, [], false, 0, false, 0, [])).2.2.2.2.2.1) ((p0.getD p2.toNat ([], 0, [], false, 0, false, 0, [])).2.2.2.2.2.2.1) ((p0.getD p2.toNat ([], 0, [], false, 0, false, 0, [])).2.2.2.2.2.2.2)).bind fun y18 =>
 bif (Nat.blt (p15.length + ([(y18.1, y18.2.1, y18.2.2.1, y18.2.2.2.1, y18.2.2.2.2.1, y18.2.2.2.2.2.1, y18.2.2.2.2.2.2.1, y18.2.2.2.2.2.2.2)] : tyH).length) 1256584717458) then
 (some ((p15 ++ ([(y18.1, y18.2.1, y18.2.2.1, y18.2.2.2.1, y18.2.2.2.2.1, y18.2.2.2.2.2.1, y18.2.2.2.2.2.2.1, y18.2.2.2.2.2.2.2)] : tyH)) : tyH)).bind fun z19 =>
 f_impl_copyNode.l1 n p0 p1 (IntKind.wrap .i64 (p2 + (1 : Int))) p3 p4 p5 p6 p7 p8 p9 p10 p11 p12 p13 p14 z19 p16 p17
 else none
 else none
 else
 some (p3, p4, p5, p6, p7, p8, p9, p10, p11, p12, p13, p14, p15, p16, p17)
noncomputable def f_impl_copyNode.l0 : Nat → tyF → Int → Int → Int → tyF → tyH → tyS → (List Int) → Int → Int → tyF → tyH → tyS → (List Int) → tyF → tyH → tyS → (List Int) → Option (Int × tyF × tyH × tyS × List Int × Int × Int × tyF × tyH × tyS × List Int × tyF × tyH × tyS × List Int)
 | 0, _, _, _, _, _, _, _, _, _, _, _, _, _, _, _, _, _, _ => none
 | n + 1, p0, p1, p2, p3, p4, p5, p6, p7, p8, p9, p10, p11, p12, p13, p14, p15, p16, p17 =>
 bif (decide (p2 < p1)) then
 bif ((decide ((0 : Int) ≤ p2)) && (decide (p2 < (p0.length : Int)))) then
 (f_impl_copyFrame ((p0.getD p2.toNat (0, [], false)).1) ((p0.getD p2.toNat (0, [], false)).2.1) ((p0.getD p2.toNat (0, [], false)).2.2)).bind fun y18 =>
 bif (Nat.blt (p14.length + ([(y18.1, y18.2.1, y18.2.2)] : tyF).length) 3518437208883) then
 (some ((p14 ++ ([(y18.1, y18.2.1, y18.2.2)] : tyF)) : tyF)).bind fun z19 =>
 f_impl_copyNode.l0 n p0 p1 (IntKind.wrap .i64 (p2 + (1 : Int))) p3 p4 p5 p6 p7 p8 p9 p10 p11 p12 p13 z19 p15 p16 p17
 else none
 else none
 else
 some (p3, p4, p5, p6, p7, p8, p9, p10, p11, p12, p13, p14, p15, p16, p17)
noncomputable def f_impl_copyNode (x0 : Int) (x1 : tyF) (x2 : tyH) (x3 : tyS) (x4 : List Int) : Option (Int × tyF × tyH × tyS × List Int) :=
 (f_slices_Clone_impl_Receiver_impl_Receiver x4).bind fun y0 =>
 (f_impl_copyNode.l0 N x1 (x1.length : Int) 0 x0 x1 x2 x3 x4 0 x0 ([] : tyF) ([] : tyH) ([] : tyS) ([] : List Int) ([] : tyF) ([] : tyH) ([] : tyS) y0).bind fun r1 =>
 (f_impl_copyNode.l1 N r1.2.2.1 (r1.2.2.1.length : Int) 0 r1.1 r1.2.1 r1.2.2.1 r1.2.2.2.1 r1.2.2.2.2.1 r1.2.2.2.2.2.1 r1.2.2.2.2.2.2.1 r1.2.2.2.2.2.2.2.1 r1.2.2.2.2.2.2.2.2.1 r1.2.2.2.2.2.2.2.2.2.1 r1.2.2.2.2.2.2.2.2.2.2.1 r1.2.2.2.2.2.2.2.2.2.2.2.1 r1.2.2.2.2.2.2.2.2.2.2.2.2.1 r1.2.2.2.2.2.2.2.2.2.2.2.2.2.1 r1.2.2.2.2.2.2.2.2.2.2.2.2.2.2).bind fun r2 =>
 (f_impl_copyNode.l2 N r2.2.2.2.1 (r2.2.2.2.1.length : Int) 0 r2.2.2.2.2.2.1 r2.2.2.2.2.2.2.1 r2.2.2.2.2.2.2.2.1 r2.2.2.2.2.2.2.2.2.1 r2.2.2.2.2.2.2.2.2.2.1 r2.2.2.2.2.2.2.2.2.2.2.1 r2.2.2.2.2.2.2.2.2.2.2.2.1 r2.2.2.2.2.2.2.2.2.2.2.2.2.1 r2.2.2.2.2.2.2.2.2.2.2.2.2.2.1 r2.2.2.2.2.2.2.2.2.2.2.2.2.2.2).bind fun r3 =>
 some (r3.2.1, r3.2.2.2.2.2.2.1, r3.2.2.2.2.2.2.2.1, r3.2.2.2.2.2.2.2.2.1, r3.2.2.2.2.2.2.2.2.2)
noncomputable def C84 : Con := ⟨[(.B, true, [iI, (.sl R4), (.sl R5), (.sl R7), (.sl R1)])], [(true, [iI, (.sl R4), (.sl R5), (.sl R7), (.sl R1)])], [iI, (.sl R4), (.sl R5), (.sl R7), (.sl R1)], [iI, (.sl R4), (.sl R5), (.sl R7), (.sl R1)], fun (p : Int × tyF × tyH × tyS × List Int) => f_impl_copyNode p.1 p.2.1 p.2.2.1 p.2.2.2.1 p.2.2.2.2⟩
noncomputable abbrev f_impl_copyNode.l0.u (n : Nat) := fun (p : tyF × Int × Int × Int × tyF × tyH × tyS × List Int × Int × Int × tyF × tyH × tyS × List Int × tyF × tyH × tyS × List Int) => f_impl_copyNode.l0 n p.1 p.2.1 p.2.2.1 p.2.2.2.1 p.2.2.2.2.1 p.2.2.2.2.2.1 p.2.2.2.2.2.2.1 p.2.2.2.2.2.2.2.1 p.2.2.2.2.2.2.2.2.1 p.2.2.2.2.2.2.2.2.2.1 p.2.2.2.2.2.2.2.2.2.2.1 p.2.2.2.2.2.2.2.2.2.2.2.1 p.2.2.2.2.2.2.2.2.2.2.2.2.1 p.2.2.2.2.2.2.2.2.2.2.2.2.2.1 p.2.2.2.2.2.2.2.2.2.2.2.2.2.2.1 p.2.2.2.2.2.2.2.2.2.2.2.2.2.2.2.1 p.2.2.2.2.2.2.2.2.2.2.2.2.2.2.2.2.1 p.2.2.2.2.2.2.2.2.2.2.2.2.2.2.2.2.2
noncomputable def f_impl_copyNode.l0.c : LoopCon := ⟨1000, 6, [1, 2, 3, 17, 18, 19], ⟨[(1, .ptr 1000 0), (2, .ptr 1001 0), (3, .ptr 1002 0), (17, bN R4), (18, i0), (19, i0)], [(1000, .box [i0, bN R4, bN R5, bN R7, bN R1]), (1001, .box [i0, .ref 1003 [] none, .ref 1004 [] none, .ref 1005 [] none, .ref 1006 [] none]), (1002, .box [i0, .ref 1007 [] none, .ref 1008 [] none, .ref 1009 [] none, .ref 1010 [] none]), (1003, .row R4 []), (1004, .row R5 []), (1005, .row R7 []), (1006, .row R1 []), (1007, .row R4 []), (1008, .row R5 []), (1009, .row R7 []), (1010, .row R1 [])], 1011⟩, [(.sl R4), iI, iI, iI, (.sl R4), (.sl R5), (.sl R7), (.sl R1), iI, iI, (.sl R4), (.sl R5), (.sl R7), (.sl R1), (.sl R4), (.sl R5), (.sl R7), (.sl R1)], [⟨.exit 0, [1, 2, 3], ⟨[(1, .ptr 1000 0), (2, .ptr 1001 0), (3, .ptr 1002 0)], [(1000, .box [i0, bN R4, bN R5, bN R7, bN R1]), (1001, .box [i0, .ref 1003 [] none, .ref 1004 [] none, .ref 1005 [] none, .ref 1006 [] none]), (1002, .box [i0, .ref 1007 [] none, .ref 1008 [] none, .ref 1009 [] none, .ref 1010 [] none]), (1003, .row R4 []), (1004, .row R5 []), (1005, .row R7 []), (1006, .row R1 []), (1007, .row R4 []), (1008, .row R5 []), (1009, .row R7 []), (1010, .row R1 [])], 1011⟩, [iI, (.sl R4), (.sl R5), (.sl R7), (.sl R1), iI, iI, (.sl R4), (.sl R5), (.sl R7), (.sl R1), (.sl R4), (.sl R5), (.sl R7), (.sl R1)]⟩], f_impl_copyNode.l0.u N⟩
noncomputable abbrev f_impl_copyNode.l1.u (n : Nat) := fun (p : tyH × Int × Int × Int × tyF × tyH × tyS × List Int × Int × Int × tyF × tyH × tyS × List Int × tyF × tyH × tyS × List Int) => f_impl_copyNode.l1 n p.1 p.2.1 p.2.2.1 p.2.2.2.1 p.2.2.2.2.1 p.2.2.2.2.2.1 p.2.2.2.2.2.2.1 p.2.2.2.2.2.2.2.1 p.2.2.2.2.2.2.2.2.1 p.2.2.2.2.2.2.2.2.2.1 p.2.2.2.2.2.2.2.2.2.2.1 p.2.2.2.2.2.2.2.2.2.2.2.1 p.2.2.2.2.2.2.2.2.2.2.2.2.1 p.2.2.2.2.2.2.2.2.2.2.2.2.2.1 p.2.2.2.2.2.2.2.2.2.2.2.2.2.2.1 p.2.2.2.2.2.2.2.2.2.2.2.2.2.2.2.1 p.2.2.2.2.2.2.2.2.2.2.2.2.2.2.2.2.1 p.2.2.2.2.2.2.2.2.2.2.2.2.2.2.2.2.2
noncomputable def f_impl_copyNode.l1.c : LoopCon := ⟨1000, 6, [1, 2, 3, 32, 33, 34], ⟨[(1, .ptr 1000 0), (2, .ptr 1001 0), (3, .ptr 1002 0), (32, bN R5), (33, i0), (34, i0)], [(1000, .box [i0, bN R4, bN R5, bN R7, bN R1]), (1001, .box [i0, .ref 1003 [] none, .ref 1004 [] none, .ref 1005 [] none, .ref 1006 [] none]), (1002, .box [i0, .ref 1007 [] none, .ref 1008 [] none, .ref 1009 [] none, .ref 1010 [] none]), (1003, .row R4 []), (1004, .row R5 []), (1005, .row R7 []), (1006, .row R1 []), (1007, .row R4 []), (1008, .row R5 []), (1009, .row R7 []), (1010, .row R1 [])], 1011⟩, [(.sl R5), iI, iI, iI, (.sl R4), (.sl R5), (.sl R7), (.sl R1), iI, iI, (.sl R4), (.sl R5), (.sl R7), (.sl R1), (.sl R4), (.sl R5), (.sl R7), (.sl R1)], [⟨.exit 2, [1, 2, 3], ⟨[(1, .ptr 1000 0), (2, .ptr 1001 0), (3, .ptr 1002 0)], [(1000, .box [i0, bN R4, bN R5, bN R7, bN R1]), (1001, .box [i0, .ref 1003 [] none, .ref 1004 [] none, .ref 1005 [] none, .ref 1006 [] none]), (1002, .box [i0, .ref 1007 [] none, .ref 1008 [] none, .ref 1009 [] none, .ref 1010 [] none]), (1003, .row R4 []), (1004, .row R5 []), (1005, .row R7 []), (1006, .row R1 []), (1007, .row R4 []), (1008, .row R5 []), (1009, .row R7 []), (1010, .row R1 [])], 1011⟩, [iI, (.sl R4), (.sl R5), (.sl R7), (.sl R1), iI, iI, (.sl R4), (.sl R5), (.sl R7), (.sl R1), (.sl R4), (.sl R5), (.sl R7), (.sl R1)]⟩], f_impl_copyNode.l1.u N⟩
noncomputable abbrev f_impl_copyNode.l2.u (n : Nat) := fun (p : tyS × Int × Int × Int × Int × tyF × tyH × tyS × List Int × tyF × tyH × tyS × List Int) => f_impl_copyNode.l2 n p.1 p.2.1 p.2.2.1 p.2.2.2.1 p.2.2.2.2.1 p.2.2.2.2.2.1 p.2.2.2.2.2.2.1 p.2.2.2.2.2.2.2.1 p.2.2.2.2.2.2.2.2.1 p.2.2.2.2.2.2.2.2.2.1 p.2.2.2.2.2.2.2.2.2.2.1 p.2.2.2.2.2.2.2.2.2.2.2.1 p.2.2.2.2.2.2.2.2.2.2.2.2
noncomputable def f_impl_copyNode.l2.c : LoopCon := ⟨1000, 6, [2, 3, 47, 48, 49], ⟨[(2, .ptr 1000 0), (3, .ptr 1001 0), (47, bN R7), (48, i0), (49, i0)], [(1000, .box [i0, .ref 1002 [] none, .ref 1003 [] none, .ref 1004 [] none, .ref 1005 [] none]), (1001, .box [i0, .ref 1006 [] none, .ref 1007 [] none, .ref 1008 [] none, .ref 1009 [] none]), (1002, .row R4 []), (1003, .row R5 []), (1004, .row R7 []), (1005, .row R1 []), (1006, .row R4 []), (1007, .row R5 []), (1008, .row R7 []), (1009, .row R1 [])], 1010⟩, [(.sl R7), iI, iI, iI, iI, (.sl R4), (.sl R5), (.sl R7), (.sl R1), (.sl R4), (.sl R5), (.sl R7), (.sl R1)], [⟨.exit 4, [2, 3], ⟨[(2, .ptr 1000 0), (3, .ptr 1001 0)], [(1000, .box [i0, .ref 1002 [] none, .ref 1003 [] none, .ref 1004 [] none, .ref 1005 [] none]), (1001, .box [i0, .ref 1006 [] none, .ref 1007 [] none, .ref 1008 [] none, .ref 1009 [] none]), (1002, .row R4 []), (1003, .row R5 []), (1004, .row R7 []), (1005, .row R1 []), (1006, .row R4 []), (1007, .row R5 []), (1008, .row R7 []), (1009, .row R1 [])], 1010⟩, [iI, iI, (.sl R4), (.sl R5), (.sl R7), (.sl R1), (.sl R4), (.sl R5), (.sl R7), (.sl R1)]⟩], f_impl_copyNode.l2.u N⟩
noncomputable abbrev K84 : Cons := [(159, C159), (160, C160), (161, C161), (162, C162)]
noncomputable abbrev L84 : List (Nat × Loops) := [(84, [(3, f_impl_copyNode.l0.c), (8, f_impl_copyNode.l1.c), (13, f_impl_copyNode.l2.c)])]
abbrev Q84 : List (Nat × List (Int × Nat) × Nat) := []
noncomputable abbrev X84 : Nat → Ctx := ctxOf tb K84 L84 Q84
theorem f_impl_copyNode.l0.ok : ∀ n p, f_impl_copyNode.l0.u n p = iterD (roundOf fs X84 6 84 3 false f_impl_copyNode.l0.c) n p :=
 iter_of (l := f_impl_copyNode.l0.u) (fun _ => rfl) (fun n p => by kernel_rfl)
theorem f_impl_copyNode.l1.ok : ∀ n p, f_impl_copyNode.l1.u n p = iterD (roundOf fs X84 6 84 8 false f_impl_copyNode.l1.c) n p :=
 iter_of (l := f_impl_copyNode.l1.u) (fun _ => rfl) (fun n p => by kernel_rfl)
theorem f_impl_copyNode.l2.ok : ∀ n p, f_impl_copyNode.l2.u n p = iterD (roundOf fs X84 6 84 13 false f_impl_copyNode.l2.c) n p :=
 iter_of (l := f_impl_copyNode.l2.u) (fun _ => rfl) (fun n p => by kernel_rfl)
theorem E84 : ∀ x, funRun fs X84 6 84 C84 x = C84.fn x := fun x => by kernel_rfl
theorem B84 : ConB Tryz.prog 84 C84 := ConB.make FS MIX TY (cons := K84) (L := L84) (ptrs := Q84) ⟨S159, S160, S161, S162, trivial⟩ trivial ⟨⟨⟨N, fun p => f_impl_copyNode.l0.ok N p⟩, ⟨N, fun p => f_impl_copyNode.l1.ok N p⟩, ⟨N, fun p => f_impl_copyNode.l2.ok N p⟩, trivial⟩, trivial⟩ rfl rfl E84
theorem S84 : ConS Tryz.prog 84 C84 := B84.call rfl
noncomputable def f_impl_keeper_give (x0 : List Int) (x1 : Int) (x2 : List Bool) (x3 : Bool) (x4 : Int) (x5 : Bool) (x6 : Int) (x7 : tyW) (x8 : Int) (x9 : tyT) : Option (List Int × Int × List Bool × Bool × Int × Bool × Int × tyW × Int × tyT) :=
 (f_slices_Clone_int_int x0).bind fun y0 =>
 bif (Nat.blt (x9.length + ([(x4, 3, x8, x5, y0)] : tyT).length) 2513169434916) then
 (some ((x9 ++ ([(x4, 3, x8, x5, y0)] : tyT)) : tyT)).bind fun z1 =>
 bif ((decide ((0 : Int) ≤ x4)) && (decide (x4 < (x2.length : Int)))) then
 (some ((x2.set x4.toNat (!x5)) : List Bool)).bind fun z2 =>
 bif x5 then
 some (x0, x4, z2, false, 0, false, x6, x7, x8, z1)
 else
 some (x0, x1, z2, false, 0, false, x6, x7, x8, z1)
 else none
 else none
noncomputable def C213 : Con := ⟨[(.P [true, true, true, true, true, true, true, true, true, true], false, [(.sl R1), iI, (.sl R2), .bool, iI, .bool, iI, (.sl R3), iI, (.sl R10)])], [], [(.sl R1), iI, (.sl R2), .bool, iI, .bool, iI, (.sl R3), iI, (.sl R10)], [(.sl R1), iI, (.sl R2), .bool, iI, .bool, iI, (.sl R3), iI, (.sl R10)], fun (p : List Int × Int × List Bool × Bool × Int × Bool × Int × tyW × Int × tyT) => f_impl_keeper_give p.1 p.2.1 p.2.2.1 p.2.2.2.1 p.2.2.2.2.1 p.2.2.2.2.2.1 p.2.2.2.2.2.2.1 p.2.2.2.2.2.2.2.1 p.2.2.2.2.2.2.2.2.1 p.2.2.2.2.2.2.2.2.2⟩
noncomputable abbrev K213 : Cons := [(146, C146)]
noncomputable abbrev L213 : List (Nat × Loops) := []
abbrev Q213 : List (Nat × List (Int × Nat) × Nat) := []
noncomputable abbrev X213 : Nat → Ctx := ctxOf tb K213 L213 Q213
theorem E213 : ∀ x, funG fs X213 6 213 C213 x = C213.fn x := fun x => by kernel_rfl
theorem B213 : ConG Tryz.prog 213 C213 := ConG.make FS MIX TY (cons := K213) (L := L213) (ptrs := Q213) ⟨S146, trivial⟩ trivial trivial rfl (by kernel_rfl) E213
theorem S213 : ConS Tryz.prog 213 C213 := B213.call (by kernel_rfl)
noncomputable def f_impl_keeper_begin.l0 : Nat → Int → Int → Int → Bool → Int → Bool → Int → Int → Int → Int → (List Bool) → (List Int) → tyW → tyT → Option (Int × Bool × Int × Bool × Int × Int × Int × Int × List Int × List Bool × tyW × tyT)
 | 0, _, _, _, _, _, _, _, _, _, _, _, _, _, _ => none
 | n + 1, p0, p1, p2, p3, p4, p5, p6, p7, p8, p9, p10, p11, p12, p13 =>
 bif (decide (p1 < p0)) then
 bif ((decide ((0 : Int) ≤ p1)) && (decide (p1 < (p10.length : Int)))) then
 bif p5 then
 bif (p10.getD p1.toNat false) then
 bif (!(decide (p1 = p4))) then
 bif (Nat.blt (p13.length + ([(p1, 4, p9, false, [])] : tyT).length) 2513169434916) then
 (some ((p13 ++ ([(p1, 4, p9, false, [])] : tyT)) : tyT)).bind fun z14 =>
 bif ((decide ((0 : Int) ≤ p1)) && (decide (p1 < (p10.length : Int)))) then
 (some ((p10.set p1.toNat false) : List Bool)).bind fun z15 =>
 f_impl_keeper_begin.l0 n p0 (IntKind.wrap .i64 (p1 + (1 : Int))) p2 p3 p4 p5 (IntKind.wrap .i64 (p6 + (1 : Int))) p7 p8 p9 z15 p11 p12 z14
 else none
 else none
 else
 f_impl_keeper_begin.l0 n p0 (IntKind.wrap .i64 (p1 + (1 : Int))) p2 p3 p4 p5 p6 p7 p8 p9 p10 p11 p12 p13
 else
 f_impl_keeper_begin.l0 n p0 (IntKind.wrap .i64 (p1 + (1 : Int))) p2 p3 p4 p5 p6 p7 p8 p9 p10 p11 p12 p13
 else
 f_impl_keeper_begin.l0 n p0 (IntKind.wrap .i64 (p1 + (1 : Int))) p2 p3 p4 p5 p6 p7 p8 p9 p10 p11 p12 p13
 else none
 else
 some (p2, p3, p4, p5, p6, p7, p8, p9, p11, p10, p12, p13)
noncomputable def f_impl_keeper_begin (x0 : List Int) (x1 : Int) (x2 : List Bool) (x3 : Bool) (x4 : Int) (x5 : Bool) (x6 : Int) (x7 : tyW) (x8 : Int) (x9 : tyT) : Option (List Int × Int × List Bool × Bool × Int × Bool × Int × tyW × Int × tyT) :=
 bif (decide ((0 : Int) < (x7.length : Int))) then
 bif (decide ((1 : Int) ≤ (x7.length : Int))) then
 bif (decide ((0 : Int) ≤ x1)) then
 bif (Nat.blt (x9.length + ([(x1, 6, x8, (x7.getD 0 (0, false)).2, [])] : tyT).length) 2513169434916) then
 (some ((x9 ++ ([(x1, 6, x8, (x7.getD 0 (0, false)).2, [])] : tyT)) : tyT)).bind fun z0 =>
 some (x0, x1, x2, true, (x7.getD 0 (0, false)).1, (x7.getD 0 (0, false)).2, x6, ((x7.drop 1).take ((x7.length : Int) - (1 : Int)).toNat), x8, z0)
 else none
 else
 (f_impl_keeper_begin.l0 N (x2.length : Int) 0 x1 true ((x7.getD 0 (0, false)).1) ((x7.getD 0 (0, false)).2) 0 1 ((x7.length : Int) - (1 : Int)) x8 x2 x0 x7 x9).bind fun r1 =>
 bif (decide (r1.2.2.2.2.1 = (0 : Int))) then
 (f_impl_keeper_give r1.2.2.2.2.2.2.2.2.1 r1.1 r1.2.2.2.2.2.2.2.2.2.1 r1.2.1 r1.2.2.1 r1.2.2.2.1 r1.2.2.2.2.1 ((r1.2.2.2.2.2.2.2.2.2.2.1.drop r1.2.2.2.2.2.1.toNat).take r1.2.2.2.2.2.2.1.toNat) r1.2.2.2.2.2.2.2.1 r1.2.2.2.2.2.2.2.2.2.2.2).bind fun y2 =>
 some (y2.1, y2.2.1, y2.2.2.1, y2.2.2.2.1, y2.2.2.2.2.1, y2.2.2.2.2.2.1, y2.2.2.2.2.2.2.1, y2.2.2.2.2.2.2.2.1, y2.2.2.2.2.2.2.2.2.1, y2.2.2.2.2.2.2.2.2.2)
 else
 some (r1.2.2.2.2.2.2.2.2.1, r1.1, r1.2.2.2.2.2.2.2.2.2.1, r1.2.1, r1.2.2.1, r1.2.2.2.1, r1.2.2.2.2.1, ((r1.2.2.2.2.2.2.2.2.2.2.1.drop r1.2.2.2.2.2.1.toNat).take r1.2.2.2.2.2.2.1.toNat), r1.2.2.2.2.2.2.2.1, r1.2.2.2.2.2.2.2.2.2.2.2)
 else none
 else none
noncomputable def C214 : Con := ⟨[(.P [true, true, true, true, true, true, true, true, true, true], false, [(.sl R1), iI, (.sl R2), .bool, iI, .bool, iI, (.sl R3), iI, (.sl R10)])], [], [(.sl R1), iI, (.sl R2), .bool, iI, .bool, iI, (.sl R3), iI, (.sl R10)], [(.sl R1), iI, (.sl R2), .bool, iI, .bool, iI, (.sl R3), iI, (.sl R10)], fun (p : List Int × Int × List Bool × Bool × Int × Bool × Int × tyW × Int × tyT) => f_impl_keeper_begin p.1 p.2.1 p.2.2.1 p.2.2.2.1 p.2.2.2.2.1 p.2.2.2.2.2.1 p.2.2.2.2.2.2.1 p.2.2.2.2.2.2.2.1 p.2.2.2.2.2.2.2.2.1 p.2.2.2.2.2.2.2.2.2⟩
noncomputable abbrev f_impl_keeper_begin.l0.u (n : Nat) := fun (p : Int × Int × Int × Bool × Int × Bool × Int × Int × Int × Int × List Bool × List Int × tyW × tyT) => f_impl_keeper_begin.l0 n p.1 p.2.1 p.2.2.1 p.2.2.2.1 p.2.2.2.2.1 p.2.2.2.2.2.1 p.2.2.2.2.2.2.1 p.2.2.2.2.2.2.2.1 p.2.2.2.2.2.2.2.2.1 p.2.2.2.2.2.2.2.2.2.1 p.2.2.2.2.2.2.2.2.2.2.1 p.2.2.2.2.2.2.2.2.2.2.2.1 p.2.2.2.2.2.2.2.2.2.2.2.2.1 p.2.2.2.2.2.2.2.2.2.2.2.2.2
noncomputable def f_impl_keeper_begin.l0.c : LoopCon := ⟨1000, 6, [0, 69, 70, 71], ⟨[(0, .ptr 500 0), (69, .ref 1000 [] none), (70, i0), (71, i0)], [(500, .box [.ref 1001 [] none, i0, .ref 1000 [] none, .bool false, i0, .bool false, i0, .ref 1002 [] (some (0, 0)), i0, .ref 1003 [] none]), (1000, .row R2 []), (1001, .row R1 []), (1002, .row R3 []), (1003, .row R10 [])], 1004⟩, [iI, iI, iI, .bool, iI, .bool, iI, iI, iI, iI, (.sl R2), (.sl R1), (.sl R3), (.sl R10)], [⟨.exit 0, [0], ⟨[(0, .ptr 500 0)], [(500, .box [.ref 1000 [] none, i0, .ref 1001 [] none, .bool false, i0, .bool false, i0, .ref 1002 [] (some (0, 0)), i0, .ref 1003 [] none]), (1000, .row R1 []), (1001, .row R2 []), (1002, .row R3 []), (1003, .row R10 [])], 1004⟩, [iI, .bool, iI, .bool, iI, iI, iI, iI, (.sl R1), (.sl R2), (.sl R3), (.sl R10)]⟩], f_impl_keeper_begin.l0.u N⟩
noncomputable abbrev K214 : Cons := [(213, C213)]
noncomputable abbrev L214 : List (Nat × Loops) := [(214, [(7, f_impl_keeper_begin.l0.c)])]
abbrev Q214 : List (Nat × List (Int × Nat) × Nat) := []
noncomputable abbrev X214 : Nat → Ctx := ctxOf tb K214 L214 Q214
theorem f_impl_keeper_begin.l0.ok : ∀ n p, f_impl_keeper_begin.l0.u n p = iterD (roundOf fs X214 6 214 7 false f_impl_keeper_begin.l0.c) n p :=
 iter_of (l := f_impl_keeper_begin.l0.u) (fun _ => rfl) (fun n p => by kernel_rfl)
theorem E214 : ∀ x, funG fs X214 6 214 C214 x = C214.fn x := fun x => by kernel_rfl
theorem B214 : ConG Tryz.prog 214 C214 := ConG.make FS MIX TY (cons := K214) (L := L214) (ptrs := Q214) ⟨S213, trivial⟩ trivial ⟨⟨⟨N, fun p => f_impl_keeper_begin.l0.ok N p⟩, trivial⟩, trivial⟩ rfl (by kernel_rfl) E214
theorem S214 : ConS Tryz.prog 214 C214 := B214.call (by kernel_rfl)
noncomputable def f_impl_HomeHear.l1 : Nat → Int → Bool → Int → Bool → Int → Int → Bool → Int → Bool → Int → Int → (List Int) → (List Bool) → tyW → (List Int) → (List Bool) → tyW → tyT → Option (Int × Bool × Int × Bool × Int × Int × Bool × Int × Bool × Int × Int × List Int × List Bool × tyW × List Int × List Bool × tyW × tyT)
 | 0, _, _, _, _, _, _, _, _, _, _, _, _, _, _, _, _, _, _ => none
 | n + 1, p0, p1, p2, p3, p4, p5, p6, p7, p8, p9, p10, p11, p12, p13, p14, p15, p16, p17 =>
 bif (!p6) then
 bif (decide ((0 : Int) < (p16.length : Int))) then
 (f_impl_keeper_begin p14 p5 p15 p6 p7 p8 p9 p16 p10 p17).bind fun y18 =>
 f_impl_HomeHear.l1 n p0 p1 p2 p3 p4 y18.2.1 y18.2.2.2.1 y18.2.2.2.2.1 y18.2.2.2.2.2.1 y18.2.2.2.2.2.2.1 y18.2.2.2.2.2.2.2.2.1 p11 p12 p13 y18.1 y18.2.2.1 y18.2.2.2.2.2.2.2.1 y18.2.2.2.2.2.2.2.2.2
 else
 some (p0, p1, p2, p3, p4, p5, p6, p7, p8, p9, p10, p11, p12, p13, p14, p15, p16, p17)
 else
 some (p0, p1, p2, p3, p4, p5, p6, p7, p8, p9, p10, p11, p12, p13, p14, p15, p16, p17)
noncomputable def f_impl_HomeHear.j0 (p0 : Int) (p1 : Bool) (p2 : List Int) (p3 : Int) (p4 : List Bool) (p5 : Bool) (p6 : Int) (p7 : Bool) (p8 : Int) (p9 : tyW) (p10 : Int) (p11 : Int) (p12 : Bool) (p13 : List Int) (p14 : Int) (p15 : Bool) (p16 : Int) (p17 : Bool) (p18 : Int) (p19 : Int) (p20 : Bool) (p21 : Int) (p22 : Bool) (p23 : Int) (p24 : Int) (p25 : List Int) (p26 : List Bool) (p27 : tyW) (p28 : List Int) (p29 : List Bool) (p30 : tyW) (p31 : tyT) : Option ((Int × Bool × Int × Bool × Int × Int × Bool × Int × Bool × Int × Int × List Int × List Bool × tyW × List Int × List Bool × tyW × tyT) ⊕ (Int × Bool × Int × Bool × Int × List Int × List Bool × tyW)) :=
 bif p1 then
 bif (Nat.blt (p30.length + ([(p0, (decide (p10 = (2 : Int))))] : tyW).length) 8796093022208) then
 (some ((p30 ++ ([(p0, (decide (p10 = (2 : Int))))] : tyW)) : tyW)).bind fun z32 =>
 some (.inl (p14, p15, p16, p17, p18, p19, p20, p21, p22, p23, p24, p25, p26, p27, p28, p29, z32, p31))
 else none
 else
 bif (decide (p10 = (5 : Int))) then
 bif p20 then
 bif (decide ((0 : Int) < p23)) then
 bif (decide ((IntKind.wrap .i64 (p23 - (1 : Int))) = (0 : Int))) then
 (f_impl_keeper_give p28 p19 p29 p20 p21 p22 (IntKind.wrap .i64 (p23 - (1 : Int))) p30 p24 p31).bind fun y33 =>
 some (.inl (p14, p15, p16, p17, p18, y33.2.1, y33.2.2.2.1, y33.2.2.2.2.1, y33.2.2.2.2.2.1, y33.2.2.2.2.2.2.1, y33.2.2.2.2.2.2.2.2.1, p25, p26, p27, y33.1, y33.2.2.1, y33.2.2.2.2.2.2.2.1, y33.2.2.2.2.2.2.2.2.2))
 else
 some (.inl (p14, p15, p16, p17, p18, p19, p20, p21, p22, (IntKind.wrap .i64 (p23 - (1 : Int))), p24, p25, p26, p27, p28, p29, p30, p31))
 else
 bif (decide (p10 = (7 : Int))) then
 bif p20 then
 bif (decide (p0 = p19)) then
 bif (decide (p23 = (0 : Int))) then
 (f_slices_Clone_int_int p13).bind fun y34 =>
 bif (!p22) then
 bif ((decide ((0 : Int) ≤ p19)) && (decide (p19 < (p29.length : Int)))) then
 (some ((p29.set p19.toNat true) : List Bool)).bind fun z35 =>
 (f_impl_keeper_give y34 (-1) z35 p20 p21 p22 p23 p30 p24 p31).bind fun y36 =>
 some (.inl (p14, p15, p16, p17, p18, y36.2.1, y36.2.2.2.1, y36.2.2.2.2.1, y36.2.2.2.2.2.1, y36.2.2.2.2.2.2.1, y36.2.2.2.2.2.2.2.2.1, p25, p26, p27, y36.1, y36.2.2.1, y36.2.2.2.2.2.2.2.1, y36.2.2.2.2.2.2.2.2.2))
 else none
 else
 (f_impl_keeper_give y34 (-1) p29 p20 p21 p22 p23 p30 p24 p31).bind fun y37 =>
 some (.inl (p14, p15, p16, p17, p18, y37.2.1, y37.2.2.2.1, y37.2.2.2.2.1, y37.2.2.2.2.2.1, y37.2.2.2.2.2.2.1, y37.2.2.2.2.2.2.2.2.1, p25, p26, p27, y37.1, y37.2.2.1, y37.2.2.2.2.2.2.2.1, y37.2.2.2.2.2.2.2.2.2))
 else
 (f_impl_copyHome p2 p3 p4 p5 p6 p7 p8 p9).bind fun y38 =>
 some (.inr (y38.2.1, y38.2.2.2.1, y38.2.2.2.2.1, y38.2.2.2.2.2.1, y38.2.2.2.2.2.2.1, y38.1, y38.2.2.1, y38.2.2.2.2.2.2.2))
 else
 (f_impl_copyHome p2 p3 p4 p5 p6 p7 p8 p9).bind fun y39 =>
 some (.inr (y39.2.1, y39.2.2.2.1, y39.2.2.2.2.1, y39.2.2.2.2.2.1, y39.2.2.2.2.2.2.1, y39.1, y39.2.2.1, y39.2.2.2.2.2.2.2))
 else
 (f_impl_copyHome p2 p3 p4 p5 p6 p7 p8 p9).bind fun y40 =>
 some (.inr (y40.2.1, y40.2.2.2.1, y40.2.2.2.2.1, y40.2.2.2.2.2.1, y40.2.2.2.2.2.2.1, y40.1, y40.2.2.1, y40.2.2.2.2.2.2.2))
 else
 (f_impl_copyHome p2 p3 p4 p5 p6 p7 p8 p9).bind fun y41 =>
 some (.inr (y41.2.1, y41.2.2.2.1, y41.2.2.2.2.1, y41.2.2.2.2.2.1, y41.2.2.2.2.2.2.1, y41.1, y41.2.2.1, y41.2.2.2.2.2.2.2))
 else
 bif (decide (p10 = (7 : Int))) then
 bif p20 then
 bif (decide (p0 = p19)) then
 bif (decide (p23 = (0 : Int))) then
 (f_slices_Clone_int_int p13).bind fun y42 =>
 bif (!p22) then
 bif ((decide ((0 : Int) ≤ p19)) && (decide (p19 < (p29.length : Int)))) then
 (some ((p29.set p19.toNat true) : List Bool)).bind fun z43 =>
 (f_impl_keeper_give y42 (-1) z43 p20 p21 p22 p23 p30 p24 p31).bind fun y44 =>
 some (.inl (p14, p15, p16, p17, p18, y44.2.1, y44.2.2.2.1, y44.2.2.2.2.1, y44.2.2.2.2.2.1, y44.2.2.2.2.2.2.1, y44.2.2.2.2.2.2.2.2.1, p25, p26, p27, y44.1, y44.2.2.1, y44.2.2.2.2.2.2.2.1, y44.2.2.2.2.2.2.2.2.2))
 else none
 else
 (f_impl_keeper_give y42 (-1) p29 p20 p21 p22 p23 p30 p24 p31).bind fun y45 =>
 some (.inl (p14, p15, p16, p17, p18, y45.2.1, y45.2.2.2.1, y45.2.2.2.2.1, y45.2.2.2.2.2.1, y45.2.2.2.2.2.2.1, y45.2.2.2.2.2.2.2.2.1, p25, p26, p27, y45.1, y45.2.2.1, y45.2.2.2.2.2.2.2.1, y45.2.2.2.2.2.2.2.2.2))
 else
 (f_impl_copyHome p2 p3 p4 p5 p6 p7 p8 p9).bind fun y46 =>
 some (.inr (y46.2.1, y46.2.2.2.1, y46.2.2.2.2.1, y46.2.2.2.2.2.1, y46.2.2.2.2.2.2.1, y46.1, y46.2.2.1, y46.2.2.2.2.2.2.2))
 else
 (f_impl_copyHome p2 p3 p4 p5 p6 p7 p8 p9).bind fun y47 =>
 some (.inr (y47.2.1, y47.2.2.2.1, y47.2.2.2.2.1, y47.2.2.2.2.2.1, y47.2.2.2.2.2.2.1, y47.1, y47.2.2.1, y47.2.2.2.2.2.2.2))
 else
 (f_impl_copyHome p2 p3 p4 p5 p6 p7 p8 p9).bind fun y48 =>
 some (.inr (y48.2.1, y48.2.2.2.1, y48.2.2.2.2.1, y48.2.2.2.2.2.1, y48.2.2.2.2.2.2.1, y48.1, y48.2.2.1, y48.2.2.2.2.2.2.2))
 else
 (f_impl_copyHome p2 p3 p4 p5 p6 p7 p8 p9).bind fun y49 =>
 some (.inr (y49.2.1, y49.2.2.2.1, y49.2.2.2.2.1, y49.2.2.2.2.2.1, y49.2.2.2.2.2.2.1, y49.1, y49.2.2.1, y49.2.2.2.2.2.2.2))
 else
 bif (decide (p10 = (7 : Int))) then
 bif p20 then
 bif (decide (p0 = p19)) then
 bif (decide (p23 = (0 : Int))) then
 (f_slices_Clone_int_int p13).bind fun y50 =>
 bif (!p22) then
 bif ((decide ((0 : Int) ≤ p19)) && (decide (p19 < (p29.length : Int)))) then
 (some ((p29.set p19.toNat true) : List Bool)).bind fun z51 =>
 (f_impl_keeper_give y50 (-1) z51 p20 p21 p22 p23 p30 p24 p31).bind fun y52 =>
 some (.inl (p14, p15, p16, p17, p18, y52.2.1, y52.2.2.2.1, y52.2.2.2.2.1, y52.2.2.2.2.2.1, y52.2.2.2.2.2.2.1, y52.2.2.2.2.2.2.2.2.1, p25, p26, p27, y52.1, y52.2.2.1, y52.2.2.2.2.2.2.2.1, y52.2.2.2.2.2.2.2.2.2))
 else none
 else
 (f_impl_keeper_give y50 (-1) p29 p20 p21 p22 p23 p30 p24 p31).bind fun y53 =>
 some (.inl (p14, p15, p16, p17, p18, y53.2.1, y53.2.2.2.1, y53.2.2.2.2.1, y53.2.2.2.2.2.1, y53.2.2.2.2.2.2.1, y53.2.2.2.2.2.2.2.2.1, p25, p26, p27, y53.1, y53.2.2.1, y53.2.2.2.2.2.2.2.1, y53.2.2.2.2.2.2.2.2.2))
 else
 (f_impl_copyHome p2 p3 p4 p5 p6 p7 p8 p9).bind fun y54 =>
 some (.inr (y54.2.1, y54.2.2.2.1, y54.2.2.2.2.1, y54.2.2.2.2.2.1, y54.2.2.2.2.2.2.1, y54.1, y54.2.2.1, y54.2.2.2.2.2.2.2))
 else
 (f_impl_copyHome p2 p3 p4 p5 p6 p7 p8 p9).bind fun y55 =>
 some (.inr (y55.2.1, y55.2.2.2.1, y55.2.2.2.2.1, y55.2.2.2.2.2.1, y55.2.2.2.2.2.2.1, y55.1, y55.2.2.1, y55.2.2.2.2.2.2.2))
 else
 (f_impl_copyHome p2 p3 p4 p5 p6 p7 p8 p9).bind fun y56 =>
 some (.inr (y56.2.1, y56.2.2.2.1, y56.2.2.2.2.1, y56.2.2.2.2.2.1, y56.2.2.2.2.2.2.1, y56.1, y56.2.2.1, y56.2.2.2.2.2.2.2))
 else
 (f_impl_copyHome p2 p3 p4 p5 p6 p7 p8 p9).bind fun y57 =>
 some (.inr (y57.2.1, y57.2.2.2.1, y57.2.2.2.2.1, y57.2.2.2.2.2.1, y57.2.2.2.2.2.2.1, y57.1, y57.2.2.1, y57.2.2.2.2.2.2.2))
noncomputable def f_impl_HomeHear (x0 : List Int) (x1 : Int) (x2 : List Bool) (x3 : Bool) (x4 : Int) (x5 : Bool) (x6 : Int) (x7 : tyW) (x8 : Int) (x9 : Int) (x10 : Int) (x11 : Int) (x12 : Int) (x13 : Bool) (x14 : List Int) : Option (List Int × Int × List Bool × Bool × Int × Bool × Int × tyW × tyT) :=
 (f_impl_HomeOk x0 x1 x2 x3 x4 x5 x6 x7 x8).bind fun y0 =>
 bif (!y0) then
 (f_impl_copyHome x0 x1 x2 x3 x4 x5 x6 x7).bind fun y1 =>
 some (y1.1, y1.2.1, y1.2.2.1, y1.2.2.2.1, y1.2.2.2.2.1, y1.2.2.2.2.2.1, y1.2.2.2.2.2.2.1, y1.2.2.2.2.2.2.2, [])
 else
 (f_impl_MsgOk x11 x12 x13 x14).bind fun y2 =>
 bif (!y2) then
 (f_impl_copyHome x0 x1 x2 x3 x4 x5 x6 x7).bind fun y3 =>
 some (y3.1, y3.2.1, y3.2.2.1, y3.2.2.2.1, y3.2.2.2.2.1, y3.2.2.2.2.2.1, y3.2.2.2.2.2.2.1, y3.2.2.2.2.2.2.2, [])
 else
 (f_impl_isOf x10 x8).bind fun y4 =>
 bif (!y4) then
 (f_impl_copyHome x0 x1 x2 x3 x4 x5 x6 x7).bind fun y5 =>
 some (y5.1, y5.2.1, y5.2.2.1, y5.2.2.2.1, y5.2.2.2.2.1, y5.2.2.2.2.2.1, y5.2.2.2.2.2.2.1, y5.2.2.2.2.2.2.2, [])
 else
 bif (!(decide (x9 = x12))) then
 (f_impl_copyHome x0 x1 x2 x3 x4 x5 x6 x7).bind fun y6 =>
 some (y6.1, y6.2.1, y6.2.2.1, y6.2.2.2.1, y6.2.2.2.2.1, y6.2.2.2.2.2.1, y6.2.2.2.2.2.2.1, y6.2.2.2.2.2.2.2, [])
 else
 (f_impl_copyHome x0 x1 x2 x3 x4 x5 x6 x7).bind fun y7 =>
 bif (decide (x11 = (1 : Int))) then
 (f_impl_HomeHear.j0 x10 (decide ((y7.2.2.2.2.2.2.2.length : Int) < (12 : Int))) x0 x1 x2 x3 x4 x5 x6 x7 x11 x12 x13 x14 0 false 0 false 0 y7.2.1 y7.2.2.2.1 y7.2.2.2.2.1 y7.2.2.2.2.2.1 y7.2.2.2.2.2.2.1 x9 ([] : List Int) ([] : List Bool) ([] : tyW) y7.1 y7.2.2.1 y7.2.2.2.2.2.2.2 ([] : tyT)).bind fun r8 =>
 cs r8 (fun a9 =>
 (f_impl_HomeHear.l1 N a9.1 a9.2.1 a9.2.2.1 a9.2.2.2.1 a9.2.2.2.2.1 a9.2.2.2.2.2.1 a9.2.2.2.2.2.2.1 a9.2.2.2.2.2.2.2.1 a9.2.2.2.2.2.2.2.2.1 a9.2.2.2.2.2.2.2.2.2.1 a9.2.2.2.2.2.2.2.2.2.2.1 a9.2.2.2.2.2.2.2.2.2.2.2.1 a9.2.2.2.2.2.2.2.2.2.2.2.2.1 a9.2.2.2.2.2.2.2.2.2.2.2.2.2.1 a9.2.2.2.2.2.2.2.2.2.2.2.2.2.2.1 a9.2.2.2.2.2.2.2.2.2.2.2.2.2.2.2.1 a9.2.2.2.2.2.2.2.2.2.2.2.2.2.2.2.2.1 a9.2.2.2.2.2.2.2.2.2.2.2.2.2.2.2.2.2).bind fun r10 =>
 some (r10.2.2.2.2.2.2.2.2.2.2.2.2.2.2.1, r10.2.2.2.2.2.1, r10.2.2.2.2.2.2.2.2.2.2.2.2.2.2.2.1, r10.2.2.2.2.2.2.1, r10.2.2.2.2.2.2.2.1, r10.2.2.2.2.2.2.2.2.1, r10.2.2.2.2.2.2.2.2.2.1, r10.2.2.2.2.2.2.2.2.2.2.2.2.2.2.2.2.1, r10.2.2.2.2.2.2.2.2.2.2.2.2.2.2.2.2.2)) (fun b11 =>
 some (b11.2.2.2.2.2.1, b11.1, b11.2.2.2.2.2.2.1, b11.2.1, b11.2.2.1, b11.2.2.2.1, b11.2.2.2.2.1, b11.2.2.2.2.2.2.2, []))
 else
 bif (decide (x11 = (2 : Int))) then
 (f_impl_HomeHear.j0 x10 (decide ((y7.2.2.2.2.2.2.2.length : Int) < (12 : Int))) x0 x1 x2 x3 x4 x5 x6 x7 x11 x12 x13 x14 0 false 0 false 0 y7.2.1 y7.2.2.2.1 y7.2.2.2.2.1 y7.2.2.2.2.2.1 y7.2.2.2.2.2.2.1 x9 ([] : List Int) ([] : List Bool) ([] : tyW) y7.1 y7.2.2.1 y7.2.2.2.2.2.2.2 ([] : tyT)).bind fun r12 =>
 cs r12 (fun a13 =>
 (f_impl_HomeHear.l1 N a13.1 a13.2.1 a13.2.2.1 a13.2.2.2.1 a13.2.2.2.2.1 a13.2.2.2.2.2.1 a13.2.2.2.2.2.2.1 a13.2.2.2.2.2.2.2.1 a13.2.2.2.2.2.2.2.2.1 a13.2.2.2.2.2.2.2.2.2.1 a13.2.2.2.2.2.2.2.2.2.2.1 a13.2.2.2.2.2.2.2.2.2.2.2.1 a13.2.2.2.2.2.2.2.2.2.2.2.2.1 a13.2.2.2.2.2.2.2.2.2.2.2.2.2.1 a13.2.2.2.2.2.2.2.2.2.2.2.2.2.2.1 a13.2.2.2.2.2.2.2.2.2.2.2.2.2.2.2.1 a13.2.2.2.2.2.2.2.2.2.2.2.2.2.2.2.2.1 a13.2.2.2.2.2.2.2.2.2.2.2.2.2.2.2.2.2).bind fun r14 =>
 some (r14.2.2.2.2.2.2.2.2.2.2.2.2.2.2.1, r14.2.2.2.2.2.1, r14.2.2.2.2.2.2.2.2.2.2.2.2.2.2.2.1, r14.2.2.2.2.2.2.1, r14.2.2.2.2.2.2.2.1, r14.2.2.2.2.2.2.2.2.1, r14.2.2.2.2.2.2.2.2.2.1, r14.2.2.2.2.2.2.2.2.2.2.2.2.2.2.2.2.1, r14.2.2.2.2.2.2.2.2.2.2.2.2.2.2.2.2.2)) (fun b15 =>
 some (b15.2.2.2.2.2.1, b15.1, b15.2.2.2.2.2.2.1, b15.2.1, b15.2.2.1, b15.2.2.2.1, b15.2.2.2.2.1, b15.2.2.2.2.2.2.2, []))
 else
 (f_impl_HomeHear.j0 x10 false x0 x1 x2 x3 x4 x5 x6 x7 x11 x12 x13 x14 0 false 0 false 0 y7.2.1 y7.2.2.2.1 y7.2.2.2.2.1 y7.2.2.2.2.2.1 y7.2.2.2.2.2.2.1 x9 ([] : List Int) ([] : List Bool) ([] : tyW) y7.1 y7.2.2.1 y7.2.2.2.2.2.2.2 ([] : tyT)).bind fun r16 =>
 cs r16 (fun a17 =>
 (f_impl_HomeHear.l1 N a17.1 a17.2.1 a17.2.2.1 a17.2.2.2.1 a17.2.2.2.2.1 a17.2.2.2.2.2.1 a17.2.2.2.2.2.2.1 a17.2.2.2.2.2.2.2.1 a17.2.2.2.2.2.2.2.2.1 a17.2.2.2.2.2.2.2.2.2.1 a17.2.2.2.2.2.2.2.2.2.2.1 a17.2.2.2.2.2.2.2.2.2.2.2.1 a17.2.2.2.2.2.2.2.2.2.2.2.2.1 a17.2.2.2.2.2.2.2.2.2.2.2.2.2.1 a17.2.2.2.2.2.2.2.2.2.2.2.2.2.2.1 a17.2.2.2.2.2.2.2.2.2.2.2.2.2.2.2.1 a17.2.2.2.2.2.2.2.2.2.2.2.2.2.2.2.2.1 a17.2.2.2.2.2.2.2.2.2.2.2.2.2.2.2.2.2).bind fun r18 =>
 some (r18.2.2.2.2.2.2.2.2.2.2.2.2.2.2.1, r18.2.2.2.2.2.1, r18.2.2.2.2.2.2.2.2.2.2.2.2.2.2.2.1, r18.2.2.2.2.2.2.1, r18.2.2.2.2.2.2.2.1, r18.2.2.2.2.2.2.2.2.1, r18.2.2.2.2.2.2.2.2.2.1, r18.2.2.2.2.2.2.2.2.2.2.2.2.2.2.2.2.1, r18.2.2.2.2.2.2.2.2.2.2.2.2.2.2.2.2.2)) (fun b19 =>
 some (b19.2.2.2.2.2.1, b19.1, b19.2.2.2.2.2.2.1, b19.2.1, b19.2.2.1, b19.2.2.2.1, b19.2.2.2.2.1, b19.2.2.2.2.2.2.2, []))
noncomputable def C180 : Con := ⟨[(.B, true, [(.sl R1), iI, (.sl R2), .bool, iI, .bool, iI, (.sl R3)]), (.B, false, [iI]), (.B, false, [iI]), (.B, false, [iI]), (.B, true, [iI, iI, .bool, (.sl R1)])], [(true, [(.sl R1), iI, (.sl R2), .bool, iI, .bool, iI, (.sl R3)]), (false, [(.sl R10)])], [(.sl R1), iI, (.sl R2), .bool, iI, .bool, iI, (.sl R3), iI, iI, iI, iI, iI, .bool, (.sl R1)], [(.sl R1), iI, (.sl R2), .bool, iI, .bool, iI, (.sl R3), (.sl R10)], fun (p : List Int × Int × List Bool × Bool × Int × Bool × Int × tyW × Int × Int × Int × Int × Int × Bool × List Int) => f_impl_HomeHear p.1 p.2.1 p.2.2.1 p.2.2.2.1 p.2.2.2.2.1 p.2.2.2.2.2.1 p.2.2.2.2.2.2.1 p.2.2.2.2.2.2.2.1 p.2.2.2.2.2.2.2.2.1 p.2.2.2.2.2.2.2.2.2.1 p.2.2.2.2.2.2.2.2.2.2.1 p.2.2.2.2.2.2.2.2.2.2.2.1 p.2.2.2.2.2.2.2.2.2.2.2.2.1 p.2.2.2.2.2.2.2.2.2.2.2.2.2.1 p.2.2.2.2.2.2.2.2.2.2.2.2.2.2⟩
noncomputable abbrev f_impl_HomeHear.j0.u := fun (p : Int × Bool × List Int × Int × List Bool × Bool × Int × Bool × Int × tyW × Int × Int × Bool × List Int × Int × Bool × Int × Bool × Int × Int × Bool × Int × Bool × Int × Int × List Int × List Bool × tyW × List Int × List Bool × tyW × tyT) => f_impl_HomeHear.j0 p.1 p.2.1 p.2.2.1 p.2.2.2.1 p.2.2.2.2.1 p.2.2.2.2.2.1 p.2.2.2.2.2.2.1 p.2.2.2.2.2.2.2.1 p.2.2.2.2.2.2.2.2.1 p.2.2.2.2.2.2.2.2.2.1 p.2.2.2.2.2.2.2.2.2.2.1 p.2.2.2.2.2.2.2.2.2.2.2.1 p.2.2.2.2.2.2.2.2.2.2.2.2.1 p.2.2.2.2.2.2.2.2.2.2.2.2.2.1 p.2.2.2.2.2.2.2.2.2.2.2.2.2.2.1 p.2.2.2.2.2.2.2.2.2.2.2.2.2.2.2.1 p.2.2.2.2.2.2.2.2.2.2.2.2.2.2.2.2.1 p.2.2.2.2.2.2.2.2.2.2.2.2.2.2.2.2.2.1 p.2.2.2.2.2.2.2.2.2.2.2.2.2.2.2.2.2.2.1 p.2.2.2.2.2.2.2.2.2.2.2.2.2.2.2.2.2.2.2.1 p.2.2.2.2.2.2.2.2.2.2.2.2.2.2.2.2.2.2.2.2.1 p.2.2.2.2.2.2.2.2.2.2.2.2.2.2.2.2.2.2.2.2.2.1 p.2.2.2.2.2.2.2.2.2.2.2.2.2.2.2.2.2.2.2.2.2.2.1 p.2.2.2.2.2.2.2.2.2.2.2.2.2.2.2.2.2.2.2.2.2.2.2.1 p.2.2.2.2.2.2.2.2.2.2.2.2.2.2.2.2.2.2.2.2.2.2.2.2.1 p.2.2.2.2.2.2.2.2.2.2.2.2.2.2.2.2.2.2.2.2.2.2.2.2.2.1 p.2.2.2.2.2.2.2.2.2.2.2.2.2.2.2.2.2.2.2.2.2.2.2.2.2.2.1 p.2.2.2.2.2.2.2.2.2.2.2.2.2.2.2.2.2.2.2.2.2.2.2.2.2.2.2.1 p.2.2.2.2.2.2.2.2.2.2.2.2.2.2.2.2.2.2.2.2.2.2.2.2.2.2.2.2.1 p.2.2.2.2.2.2.2.2.2.2.2.2.2.2.2.2.2.2.2.2.2.2.2.2.2.2.2.2.2.1 p.2.2.2.2.2.2.2.2.2.2.2.2.2.2.2.2.2.2.2.2.2.2.2.2.2.2.2.2.2.2.1 p.2.2.2.2.2.2.2.2.2.2.2.2.2.2.2.2.2.2.2.2.2.2.2.2.2.2.2.2.2.2.2
noncomputable def f_impl_HomeHear.j0.c : LoopCon := ⟨1000, 6, [3, 5, 9, 10, 11, 12, 43], ⟨[(3, i0), (5, .ptr 1000 0), (9, .ptr 1001 0), (10, .ptr 1002 0), (11, .nil (some R10)), (12, .ptr 1003 0), (43, .bool false)], [(1000, .box [bN R1, i0, bN R2, .bool false, i0, .bool false, i0, bN R3]), (1001, .box [i0, i0, .bool false, bN R1]), (1002, .box [.ref 1004 [] none, i0, .ref 1005 [] none, .bool false, i0, .bool false, i0, .ref 1006 [] none]), (1003, .box [.ref 1007 [] none, i0, .ref 1008 [] none, .bool false, i0, .bool false, i0, .ref 1009 [] none, i0, .ref 1010 [] none]), (1004, .row R1 []), (1005, .row R2 []), (1006, .row R3 []), (1007, .row R1 []), (1008, .row R2 []), (1009, .row R3 []), (1010, .row R10 [])], 1011⟩, [iI, .bool, (.sl R1), iI, (.sl R2), .bool, iI, .bool, iI, (.sl R3), iI, iI, .bool, (.sl R1), iI, .bool, iI, .bool, iI, iI, .bool, iI, .bool, iI, iI, (.sl R1), (.sl R2), (.sl R3), (.sl R1), (.sl R2), (.sl R3), (.sl R10)], [⟨.normal, [10, 11, 12], ⟨[(10, .ptr 1000 0), (11, .nil (some R10)), (12, .ptr 1001 0)], [(1000, .box [.ref 1002 [] none, i0, .ref 1003 [] none, .bool false, i0, .bool false, i0, .ref 1004 [] none]), (1001, .box [.ref 1005 [] none, i0, .ref 1006 [] none, .bool false, i0, .bool false, i0, .ref 1007 [] none, i0, .ref 1008 [] none]), (1002, .row R1 []), (1003, .row R2 []), (1004, .row R3 []), (1005, .row R1 []), (1006, .row R2 []), (1007, .row R3 []), (1008, .row R10 [])], 1009⟩, [iI, .bool, iI, .bool, iI, iI, .bool, iI, .bool, iI, iI, (.sl R1), (.sl R2), (.sl R3), (.sl R1), (.sl R2), (.sl R3), (.sl R10)]⟩, ⟨.ret, [10, 11], ⟨[(10, .ptr 1000 0), (11, .nil (some R10))], [(1000, .box [.ref 1001 [] none, i0, .ref 1002 [] none, .bool false, i0, .bool false, i0, .ref 1003 [] none]), (1001, .row R1 []), (1002, .row R2 []), (1003, .row R3 [])], 1004⟩, [iI, .bool, iI, .bool, iI, (.sl R1), (.sl R2), (.sl R3)]⟩], f_impl_HomeHear.j0.u⟩
noncomputable abbrev f_impl_HomeHear.l1.u (n : Nat) := fun (p : Int × Bool × Int × Bool × Int × Int × Bool × Int × Bool × Int × Int × List Int × List Bool × tyW × List Int × List Bool × tyW × tyT) => f_impl_HomeHear.l1 n p.1 p.2.1 p.2.2.1 p.2.2.2.1 p.2.2.2.2.1 p.2.2.2.2.2.1 p.2.2.2.2.2.2.1 p.2.2.2.2.2.2.2.1 p.2.2.2.2.2.2.2.2.1 p.2.2.2.2.2.2.2.2.2.1 p.2.2.2.2.2.2.2.2.2.2.1 p.2.2.2.2.2.2.2.2.2.2.2.1 p.2.2.2.2.2.2.2.2.2.2.2.2.1 p.2.2.2.2.2.2.2.2.2.2.2.2.2.1 p.2.2.2.2.2.2.2.2.2.2.2.2.2.2.1 p.2.2.2.2.2.2.2.2.2.2.2.2.2.2.2.1 p.2.2.2.2.2.2.2.2.2.2.2.2.2.2.2.2.1 p.2.2.2.2.2.2.2.2.2.2.2.2.2.2.2.2.2
noncomputable def f_impl_HomeHear.l1.c : LoopCon := ⟨1000, 6, [10, 11, 12], ⟨[(10, .ptr 1000 0), (11, .nil (some R10)), (12, .ptr 1001 0)], [(1000, .box [.ref 1002 [] none, i0, .ref 1003 [] none, .bool false, i0, .bool false, i0, .ref 1004 [] none]), (1001, .box [.ref 1005 [] none, i0, .ref 1006 [] none, .bool false, i0, .bool false, i0, .ref 1007 [] none, i0, .ref 1008 [] none]), (1002, .row R1 []), (1003, .row R2 []), (1004, .row R3 []), (1005, .row R1 []), (1006, .row R2 []), (1007, .row R3 []), (1008, .row R10 [])], 1009⟩, [iI, .bool, iI, .bool, iI, iI, .bool, iI, .bool, iI, iI, (.sl R1), (.sl R2), (.sl R3), (.sl R1), (.sl R2), (.sl R3), (.sl R10)], [⟨.exit 1, [10, 11, 12], ⟨[(10, .ptr 1000 0), (11, .nil (some R10)), (12, .ptr 1001 0)], [(1000, .box [.ref 1002 [] none, i0, .ref 1003 [] none, .bool false, i0, .bool false, i0, .ref 1004 [] none]), (1001, .box [.ref 1005 [] none, i0, .ref 1006 [] none, .bool false, i0, .bool false, i0, .ref 1007 [] none, i0, .ref 1008 [] none]), (1002, .row R1 []), (1003, .row R2 []), (1004, .row R3 []), (1005, .row R1 []), (1006, .row R2 []), (1007, .row R3 []), (1008, .row R10 [])], 1009⟩, [iI, .bool, iI, .bool, iI, iI, .bool, iI, .bool, iI, iI, (.sl R1), (.sl R2), (.sl R3), (.sl R1), (.sl R2), (.sl R3), (.sl R10)]⟩], f_impl_HomeHear.l1.u N⟩
noncomputable abbrev K180 : Cons := [(100, C100), (110, C110), (123, C123), (146, C146), (161, C161), (213, C213), (214, C214)]
noncomputable abbrev L180 : List (Nat × Loops) := [(180, [(1000006, f_impl_HomeHear.j0.c), (17, f_impl_HomeHear.l1.c)])]
abbrev Q180 : List (Nat × List (Int × Nat) × Nat) := []
noncomputable abbrev X180 : Nat → Ctx := ctxOf tb K180 L180 Q180
theorem f_impl_HomeHear.j0.ok : ∀ p, f_impl_HomeHear.j0.u p = iterD (roundOf fs X180 6 180 1000006 false f_impl_HomeHear.j0.c) 1 p := fun p => by kernel_rfl
theorem f_impl_HomeHear.l1.ok : ∀ n p, f_impl_HomeHear.l1.u n p = iterD (roundOf fs X180 6 180 17 false f_impl_HomeHear.l1.c) n p :=
 iter_of (l := f_impl_HomeHear.l1.u) (fun _ => rfl) (fun n p => by kernel_rfl)
theorem E180 : ∀ x, funRun fs X180 6 180 C180 x = C180.fn x := fun x => by kernel_rfl
theorem B180 : ConB Tryz.prog 180 C180 := ConB.make FS MIX TY (cons := K180) (L := L180) (ptrs := Q180) ⟨S100, S110, S123, S146, S161, S213, S214, trivial⟩ trivial ⟨⟨⟨1, fun p => f_impl_HomeHear.j0.ok p⟩, ⟨N, fun p => f_impl_HomeHear.l1.ok N p⟩, trivial⟩, trivial⟩ rfl rfl E180
theorem S180 : ConS Tryz.prog 180 C180 := B180.call rfl
noncomputable def f_impl_Queue (x0 : Int) (x1 : tyM) (x2 : Int) (x3 : Int) (x4 : Bool) (x5 : List Int) : Option (Int × tyM × Bool) :=
 (f_impl_copySender x0 x1).bind fun y0 =>
 (f_impl_SenderOk y0.1 y0.2).bind fun y1 =>
 bif (!y1) then
 some (y0.1, y0.2, false)
 else
 (f_impl_MsgOk x2 x3 x4 x5).bind fun y2 =>
 bif (!y2) then
 some (y0.1, y0.2, false)
 else
 bif (decide ((y0.2.length : Int) = (30 : Int))) then
 some (y0.1, y0.2, false)
 else
 bif (decide ((IntKind.wrap .i64 (y0.1 + (y0.2.length : Int))) = (100000 : Int))) then
 some (y0.1, y0.2, false)
 else
 (f_impl_copyMsg x2 x3 x4 x5).bind fun y3 =>
 bif (Nat.blt (y0.2.length + ([(y3.1, y3.2.1, y3.2.2.1, y3.2.2.2)] : tyM).length) 2932031007402) then
 (some ((y0.2 ++ ([(y3.1, y3.2.1, y3.2.2.1, y3.2.2.2)] : tyM)) : tyM)).bind fun z4 =>
 some (y0.1, z4, true)
 else none
noncomputable def C86 : Con := ⟨[(.B, true, [iI, (.sl R6)]), (.B, true, [iI, iI, .bool, (.sl R1)])], [(true, [iI, (.sl R6)]), (false, [.bool])], [iI, (.sl R6), iI, iI, .bool, (.sl R1)], [iI, (.sl R6), .bool], fun (p : Int × tyM × Int × Int × Bool × List Int) => f_impl_Queue p.1 p.2.1 p.2.2.1 p.2.2.2.1 p.2.2.2.2.1 p.2.2.2.2.2⟩
noncomputable abbrev K86 : Cons := [(110, C110), (126, C126), (162, C162), (163, C163)]
noncomputable abbrev L86 : List (Nat × Loops) := []
abbrev Q86 : List (Nat × List (Int × Nat) × Nat) := []
noncomputable abbrev X86 : Nat → Ctx := ctxOf tb K86 L86 Q86
theorem E86 : ∀ x, funRun fs X86 6 86 C86 x = C86.fn x := fun x => by kernel_rfl
theorem B86 : ConB Tryz.prog 86 C86 := ConB.make FS MIX TY (cons := K86) (L := L86) (ptrs := Q86) ⟨S110, S126, S162, S163, trivial⟩ trivial trivial rfl rfl E86
theorem S86 : ConS Tryz.prog 86 C86 := B86.call rfl
noncomputable def f_impl_Node_toHome.l0 : Nat → Bool → Int → Int → Int → tyT → tyF → tyH → tyS → (List Int) → Option ((Bool × Int × tyF × tyH × tyS × List Int) ⊕ (Bool × Int × tyF × tyH × tyS × List Int))
 | 0, _, _, _, _, _, _, _, _, _ => none
 | n + 1, p0, p1, p2, p3, p4, p5, p6, p7, p8 =>
 bif (decide (p2 < p1)) then
 bif ((decide ((0 : Int) ≤ p2)) && (decide (p2 < (p4.length : Int)))) then
 bif ((decide ((0 : Int) ≤ ((p4.getD p2.toNat (0, 0, 0, false, [])).1))) && (decide (((p4.getD p2.toNat (0, 0, 0, false, [])).1) < (p7.length : Int)))) then
 (f_impl_Queue ((p7.getD ((p4.getD p2.toNat (0, 0, 0, false, [])).1).toNat (0, [])).1) ((p7.getD ((p4.getD p2.toNat (0, 0, 0, false, [])).1).toNat (0, [])).2) ((p4.getD p2.toNat (0, 0, 0, false, [])).2.1) ((p4.getD p2.toNat (0, 0, 0, false, [])).2.2.1) ((p4.getD p2.toNat (0, 0, 0, false, [])).2.2.2.1) ((p4.getD p2.toNat (0, 0, 0, false, [])).2.2.2.2)).bind fun y9 =>
 bif (!y9.2.2) then
 some (.inl (false, p3, p5, p6, p7, p8))
 else
 bif ((decide ((0 : Int) ≤ ((p4.getD p2.toNat (0, 0, 0, false, [])).1))) && (decide (((p4.getD p2.toNat (0, 0, 0, false, [])).1) < (p7.length : Int)))) then
 (some ((p7.set ((p4.getD p2.toNat (0, 0, 0, false, [])).1).toNat (y9.1, y9.2.1)) : tyS)).bind fun z10 =>
 f_impl_Node_toHome.l0 n p0 p1 (IntKind.wrap .i64 (p2 + (1 : Int))) p3 p4 p5 p6 z10 p8
 else none
 else none
 else none
 else
 some (.inr (p0, p3, p5, p6, p7, p8))
noncomputable def f_impl_Node_toHome (x0 : Int) (x1 : tyF) (x2 : tyH) (x3 : tyS) (x4 : List Int) (x5 : Int) (x6 : Int) (x7 : Int) (x8 : Int) (x9 : Bool) (x10 : List Int) : Option (Bool × Int × tyF × tyH × tyS × List Int) :=
 bif ((decide ((0 : Int) ≤ x8)) && (decide (x8 < (x2.length : Int)))) then
 (f_impl_HomeHear ((x2.getD x8.toNat ([], 0, [], false, 0, false, 0, [])).1) ((x2.getD x8.toNat ([], 0, [], false, 0, false, 0, [])).2.1) ((x2.getD x8.toNat ([], 0, [], false, 0, false, 0, [])).2.2.1) ((x2.getD x8.toNat ([], 0, [], false, 0, false, 0, [])).2.2.2.1) ((x2.getD x8.toNat ([], 0, [], false, 0, false, 0, [])).2.2.2.2.1) ((x2.getD x8.toNat ([], 0, [], false, 0, false, 0, [])).2.2.2.2.2.1) ((x2.getD x8.toNat ([], 0, [], false, 0, false, 0, [])).2.2.2.2.2.2.1) ((x2.getD x8.toNat ([], 0, [], false, 0, false, 0, [])).2.2.2.2.2.2.2) x5 x8 x6 x7 x8 x9 x10).bind fun y0 =>
 bif ((decide ((0 : Int) ≤ x8)) && (decide (x8 < (x2.length : Int)))) then
 (some ((x2.set x8.toNat (y0.1, y0.2.1, y0.2.2.1, y0.2.2.2.1, y0.2.2.2.2.1, y0.2.2.2.2.2.1, y0.2.2.2.2.2.2.1, y0.2.2.2.2.2.2.2.1)) : tyH)).bind fun z1 =>
 (f_impl_Node_toHome.l0 N false (y0.2.2.2.2.2.2.2.2.length : Int) 0 x0 y0.2.2.2.2.2.2.2.2 x1 z1 x3 x4).bind fun r2 =>
 cs r2 (fun a3 =>
 some (a3.1, a3.2.1, a3.2.2.1, a3.2.2.2.1, a3.2.2.2.2.1, a3.2.2.2.2.2)) (fun b4 =>
 some (true, b4.2.1, b4.2.2.1, b4.2.2.2.1, b4.2.2.2.2.1, b4.2.2.2.2.2))
 else none
 else none
noncomputable def C111 : Con := ⟨[(.P [true, true, true, true, true], false, [iI, (.sl R4), (.sl R5), (.sl R7), (.sl R1)]), (.B, false, [iI]), (.B, false, [iI]), (.B, true, [iI, iI, .bool, (.sl R1)])], [(false, [.bool])], [iI, (.sl R4), (.sl R5), (.sl R7), (.sl R1), iI, iI, iI, iI, .bool, (.sl R1)], [.bool, iI, (.sl R4), (.sl R5), (.sl R7), (.sl R1)], fun (p : Int × tyF × tyH × tyS × List Int × Int × Int × Int × Int × Bool × List Int) => f_impl_Node_toHome p.1 p.2.1 p.2.2.1 p.2.2.2.1 p.2.2.2.2.1 p.2.2.2.2.2.1 p.2.2.2.2.2.2.1 p.2.2.2.2.2.2.2.1 p.2.2.2.2.2.2.2.2.1 p.2.2.2.2.2.2.2.2.2.1 p.2.2.2.2.2.2.2.2.2.2⟩
noncomputable abbrev f_impl_Node_toHome.l0.u (n : Nat) := fun (p : Bool × Int × Int × Int × tyT × tyF × tyH × tyS × List Int) => f_impl_Node_toHome.l0 n p.1 p.2.1 p.2.2.1 p.2.2.2.1 p.2.2.2.2.1 p.2.2.2.2.2.1 p.2.2.2.2.2.2.1 p.2.2.2.2.2.2.2.1 p.2.2.2.2.2.2.2.2
noncomputable def f_impl_Node_toHome.l0.c : LoopCon := ⟨1000, 6, [0, 8, 40, 41, 42], ⟨[(0, .ptr 500 0), (8, .bool false), (40, .ref 1000 [] none), (41, i0), (42, i0)], [(500, .box [i0, .ref 1001 [] none, .ref 1002 [] none, .ref 1003 [] none, .ref 1004 [] none]), (1000, .row R10 []), (1001, .row R4 []), (1002, .row R5 []), (1003, .row R7 []), (1004, .row R1 [])], 1005⟩, [.bool, iI, iI, iI, (.sl R10), (.sl R4), (.sl R5), (.sl R7), (.sl R1)], [⟨.ret, [8], ⟨[(8, .bool false)], [(500, .box [i0, .ref 1000 [] none, .ref 1001 [] none, .ref 1002 [] none, .ref 1003 [] none]), (1000, .row R4 []), (1001, .row R5 []), (1002, .row R7 []), (1003, .row R1 [])], 1004⟩, [.bool, iI, (.sl R4), (.sl R5), (.sl R7), (.sl R1)]⟩, ⟨.exit 0, [8], ⟨[(8, .bool false)], [(500, .box [i0, .ref 1000 [] none, .ref 1001 [] none, .ref 1002 [] none, .ref 1003 [] none]), (1000, .row R4 []), (1001, .row R5 []), (1002, .row R7 []), (1003, .row R1 [])], 1004⟩, [.bool, iI, (.sl R4), (.sl R5), (.sl R7), (.sl R1)]⟩], f_impl_Node_toHome.l0.u N⟩
noncomputable abbrev K111 : Cons := [(86, C86), (180, C180)]
noncomputable abbrev L111 : List (Nat × Loops) := [(111, [(4, f_impl_Node_toHome.l0.c)])]
abbrev Q111 : List (Nat × List (Int × Nat) × Nat) := []
noncomputable abbrev X111 : Nat → Ctx := ctxOf tb K111 L111 Q111
theorem f_impl_Node_toHome.l0.ok : ∀ n p, f_impl_Node_toHome.l0.u n p = iterD (roundOf fs X111 6 111 4 false f_impl_Node_toHome.l0.c) n p :=
 iter_of (l := f_impl_Node_toHome.l0.u) (fun _ => rfl) (fun n p => by kernel_rfl)
theorem E111 : ∀ x, funG fs X111 6 111 C111 x = C111.fn x := fun x => by kernel_rfl
theorem B111 : ConG Tryz.prog 111 C111 := ConG.make FS MIX TY (cons := K111) (L := L111) (ptrs := Q111) ⟨S86, S180, trivial⟩ trivial ⟨⟨⟨N, fun p => f_impl_Node_toHome.l0.ok N p⟩, trivial⟩, trivial⟩ rfl (by kernel_rfl) E111
theorem S111 : ConS Tryz.prog 111 C111 := B111.call (by kernel_rfl)
noncomputable def f_impl_FrameHear (x0 : Int) (x1 : List Int) (x2 : Bool) (x3 : Int) (x4 : Int) (x5 : Bool) (x6 : List Int) : Option (Int × List Int × Bool × Int × Int × Bool × List Int × Bool) :=
 (f_impl_copyFrame x0 x1 x2).bind fun y0 =>
 (f_impl_FrameOk x0 x1 x2).bind fun y1 =>
 bif (!y1) then
 some (y0.1, y0.2.1, y0.2.2, 0, 0, false, [], false)
 else
 (f_impl_MsgOk x3 x4 x5 x6).bind fun y2 =>
 bif (!y2) then
 some (y0.1, y0.2.1, y0.2.2, 0, 0, false, [], false)
 else
 bif (decide (x3 = (3 : Int))) then
 (f_slices_Clone_int_int x6).bind fun y3 =>
 bif x5 then
 some (2, y3, false, 0, 0, false, [], false)
 else
 some (1, y3, false, 0, 0, false, [], false)
 else
 bif (decide (x3 = (4 : Int))) then
 some (0, [], x2, 5, x4, false, [], true)
 else
 bif (decide (x3 = (6 : Int))) then
 bif (decide (x0 = (2 : Int))) then
 (f_slices_Clone_int_int x1).bind fun y4 =>
 bif x5 then
 some (0, [], x2, 7, x4, false, y4, true)
 else
 some (1, y0.2.1, y0.2.2, 7, x4, false, y4, true)
 else
 some (y0.1, y0.2.1, y0.2.2, 0, 0, false, [], false)
 else
 some (y0.1, y0.2.1, y0.2.2, 0, 0, false, [], false)
noncomputable def C181 : Con := ⟨[(.B, true, [iI, (.sl R1), .bool]), (.B, true, [iI, iI, .bool, (.sl R1)])], [(true, [iI, (.sl R1), .bool]), (true, [iI, iI, .bool, (.sl R1)]), (false, [.bool])], [iI, (.sl R1), .bool, iI, iI, .bool, (.sl R1)], [iI, (.sl R1), .bool, iI, iI, .bool, (.sl R1), .bool], fun (p : Int × List Int × Bool × Int × Int × Bool × List Int) => f_impl_FrameHear p.1 p.2.1 p.2.2.1 p.2.2.2.1 p.2.2.2.2.1 p.2.2.2.2.2.1 p.2.2.2.2.2.2⟩
noncomputable abbrev K181 : Cons := [(110, C110), (120, C120), (146, C146), (160, C160)]
noncomputable abbrev L181 : List (Nat × Loops) := []
abbrev Q181 : List (Nat × List (Int × Nat) × Nat) := []
noncomputable abbrev X181 : Nat → Ctx := ctxOf tb K181 L181 Q181
theorem E181 : ∀ x, funRun fs X181 6 181 C181 x = C181.fn x := fun x => by kernel_rfl
theorem B181 : ConB Tryz.prog 181 C181 := ConB.make FS MIX TY (cons := K181) (L := L181) (ptrs := Q181) ⟨S110, S120, S146, S160, trivial⟩ trivial trivial rfl rfl E181
theorem S181 : ConS Tryz.prog 181 C181 := B181.call rfl
noncomputable def f_impl_Node_toFrame (x0 : Int) (x1 : tyF) (x2 : tyH) (x3 : tyS) (x4 : List Int) (x5 : Int) (x6 : Int) (x7 : Int) (x8 : Bool) (x9 : List Int) : Option (Bool × Int × tyF × tyH × tyS × List Int) :=
 bif ((decide ((0 : Int) ≤ x7)) && (decide (x7 < (x1.length : Int)))) then
 (f_impl_FrameHear ((x1.getD x7.toNat (0, [], false)).1) ((x1.getD x7.toNat (0, [], false)).2.1) ((x1.getD x7.toNat (0, [], false)).2.2) x6 x7 x8 x9).bind fun y0 =>
 bif ((decide ((0 : Int) ≤ x7)) && (decide (x7 < (x1.length : Int)))) then
 (some ((x1.set x7.toNat (y0.1, y0.2.1, y0.2.2.1)) : tyF)).bind fun z1 =>
 bif (!y0.2.2.2.2.2.2.2) then
 some (true, x0, z1, x2, x3, x4)
 else
 bif ((decide ((0 : Int) ≤ x5)) && (decide (x5 < (x3.length : Int)))) then
 (f_impl_Queue ((x3.getD x5.toNat (0, [])).1) ((x3.getD x5.toNat (0, [])).2) y0.2.2.2.1 y0.2.2.2.2.1 y0.2.2.2.2.2.1 y0.2.2.2.2.2.2.1).bind fun y2 =>
 bif ((decide ((0 : Int) ≤ x5)) && (decide (x5 < (x3.length : Int)))) then
 (some ((x3.set x5.toNat (y2.1, y2.2.1)) : tyS)).bind fun z3 =>
 some (y2.2.2, x0, z1, x2, z3, x4)
 else none
 else none
 else none
 else none
noncomputable def C112 : Con := ⟨[(.P [true, true, true, true, true], false, [iI, (.sl R4), (.sl R5), (.sl R7), (.sl R1)]), (.B, false, [iI]), (.B, true, [iI, iI, .bool, (.sl R1)])], [(false, [.bool])], [iI, (.sl R4), (.sl R5), (.sl R7), (.sl R1), iI, iI, iI, .bool, (.sl R1)], [.bool, iI, (.sl R4), (.sl R5), (.sl R7), (.sl R1)], fun (p : Int × tyF × tyH × tyS × List Int × Int × Int × Int × Bool × List Int) => f_impl_Node_toFrame p.1 p.2.1 p.2.2.1 p.2.2.2.1 p.2.2.2.2.1 p.2.2.2.2.2.1 p.2.2.2.2.2.2.1 p.2.2.2.2.2.2.2.1 p.2.2.2.2.2.2.2.2.1 p.2.2.2.2.2.2.2.2.2⟩
noncomputable abbrev K112 : Cons := [(86, C86), (181, C181)]
noncomputable abbrev L112 : List (Nat × Loops) := []
abbrev Q112 : List (Nat × List (Int × Nat) × Nat) := []
noncomputable abbrev X112 : Nat → Ctx := ctxOf tb K112 L112 Q112
theorem E112 : ∀ x, funG fs X112 6 112 C112 x = C112.fn x := fun x => by kernel_rfl
theorem B112 : ConG Tryz.prog 112 C112 := ConG.make FS MIX TY (cons := K112) (L := L112) (ptrs := Q112) ⟨S86, S181, trivial⟩ trivial trivial rfl (by kernel_rfl) E112
theorem S112 : ConS Tryz.prog 112 C112 := B112.call (by kernel_rfl)
noncomputable def f_impl_NodeHear (x0 : Int) (x1 : tyF) (x2 : tyH) (x3 : tyS) (x4 : List Int) (x5 : Int) (x6 : Int) (x7 : Int) (x8 : Int) (x9 : Bool) (x10 : List Int) : Option (Int × tyF × tyH × tyS × List Int × Bool) :=
 (f_impl_NodeOk x0 x1 x2 x3 x4 x5).bind fun y0 =>
 bif (!y0) then
 (f_impl_copyNode x0 x1 x2 x3 x4).bind fun y1 =>
 some (y1.1, y1.2.1, y1.2.2.1, y1.2.2.2.1, y1.2.2.2.2, false)
 else
 (f_impl_MsgOk x7 x8 x9 x10).bind fun y2 =>
 bif (!y2) then
 (f_impl_copyNode x0 x1 x2 x3 x4).bind fun y3 =>
 some (y3.1, y3.2.1, y3.2.2.1, y3.2.2.2.1, y3.2.2.2.2, false)
 else
 (f_impl_isOf x6 x5).bind fun y4 =>
 bif (!y4) then
 (f_impl_copyNode x0 x1 x2 x3 x4).bind fun y5 =>
 some (y5.1, y5.2.1, y5.2.2.1, y5.2.2.2.1, y5.2.2.2.2, false)
 else
 (f_impl_copyNode x0 x1 x2 x3 x4).bind fun y6 =>
 bif (decide (x5 = (0 : Int))) then none else
 bif (decide (x7 = (1 : Int))) then
 bif (decide ((Int.tmod x8 x5) = x0)) then
 (f_impl_Node_toHome y6.1 y6.2.1 y6.2.2.1 y6.2.2.2.1 y6.2.2.2.2 x5 x6 x7 x8 x9 x10).bind fun y7 =>
 bif (!y7.1) then
 (f_impl_copyNode x0 x1 x2 x3 x4).bind fun y8 =>
 some (y8.1, y8.2.1, y8.2.2.1, y8.2.2.2.1, y8.2.2.2.2, false)
 else
 some (y7.2.1, y7.2.2.1, y7.2.2.2.1, y7.2.2.2.2.1, y7.2.2.2.2.2, true)
 else
 some (y6.1, y6.2.1, y6.2.2.1, y6.2.2.2.1, y6.2.2.2.2, true)
 else
 bif (decide (x7 = (2 : Int))) then
 bif (decide ((Int.tmod x8 x5) = x0)) then
 (f_impl_Node_toHome y6.1 y6.2.1 y6.2.2.1 y6.2.2.2.1 y6.2.2.2.2 x5 x6 x7 x8 x9 x10).bind fun y9 =>
 bif (!y9.1) then
 (f_impl_copyNode x0 x1 x2 x3 x4).bind fun y10 =>
 some (y10.1, y10.2.1, y10.2.2.1, y10.2.2.2.1, y10.2.2.2.2, false)
 else
 some (y9.2.1, y9.2.2.1, y9.2.2.2.1, y9.2.2.2.2.1, y9.2.2.2.2.2, true)
 else
 some (y6.1, y6.2.1, y6.2.2.1, y6.2.2.2.1, y6.2.2.2.2, true)
 else
 bif (decide (x7 = (5 : Int))) then
 bif (decide ((Int.tmod x8 x5) = x0)) then
 (f_impl_Node_toHome y6.1 y6.2.1 y6.2.2.1 y6.2.2.2.1 y6.2.2.2.2 x5 x6 x7 x8 x9 x10).bind fun y11 =>
 bif (!y11.1) then
 (f_impl_copyNode x0 x1 x2 x3 x4).bind fun y12 =>
 some (y12.1, y12.2.1, y12.2.2.1, y12.2.2.2.1, y12.2.2.2.2, false)
 else
 some (y11.2.1, y11.2.2.1, y11.2.2.2.1, y11.2.2.2.2.1, y11.2.2.2.2.2, true)
 else
 some (y6.1, y6.2.1, y6.2.2.1, y6.2.2.2.1, y6.2.2.2.2, true)
 else
 bif (decide (x7 = (7 : Int))) then
 bif (decide ((Int.tmod x8 x5) = x0)) then
 (f_impl_Node_toHome y6.1 y6.2.1 y6.2.2.1 y6.2.2.2.1 y6.2.2.2.2 x5 x6 x7 x8 x9 x10).bind fun y13 =>
 bif (!y13.1) then
 (f_impl_copyNode x0 x1 x2 x3 x4).bind fun y14 =>
 some (y14.1, y14.2.1, y14.2.2.1, y14.2.2.2.1, y14.2.2.2.2, false)
 else
 some (y13.2.1, y13.2.2.1, y13.2.2.2.1, y13.2.2.2.2.1, y13.2.2.2.2.2, true)
 else
 some (y6.1, y6.2.1, y6.2.2.1, y6.2.2.2.1, y6.2.2.2.2, true)
 else
 bif (decide ((Int.tmod x8 x5) = x6)) then
 (f_impl_Node_toFrame y6.1 y6.2.1 y6.2.2.1 y6.2.2.2.1 y6.2.2.2.2 x6 x7 x8 x9 x10).bind fun y15 =>
 bif (!y15.1) then
 (f_impl_copyNode x0 x1 x2 x3 x4).bind fun y16 =>
 some (y16.1, y16.2.1, y16.2.2.1, y16.2.2.2.1, y16.2.2.2.2, false)
 else
 some (y15.2.1, y15.2.2.1, y15.2.2.2.1, y15.2.2.2.2.1, y15.2.2.2.2.2, true)
 else
 some (y6.1, y6.2.1, y6.2.2.1, y6.2.2.2.1, y6.2.2.2.2, true)
noncomputable def C43 : Con := ⟨[(.B, true, [iI, (.sl R4), (.sl R5), (.sl R7), (.sl R1)]), (.B, false, [iI]), (.B, false, [iI]), (.B, true, [iI, iI, .bool, (.sl R1)])], [(true, [iI, (.sl R4), (.sl R5), (.sl R7), (.sl R1)]), (false, [.bool])], [iI, (.sl R4), (.sl R5), (.sl R7), (.sl R1), iI, iI, iI, iI, .bool, (.sl R1)], [iI, (.sl R4), (.sl R5), (.sl R7), (.sl R1), .bool], fun (p : Int × tyF × tyH × tyS × List Int × Int × Int × Int × Int × Bool × List Int) => f_impl_NodeHear p.1 p.2.1 p.2.2.1 p.2.2.2.1 p.2.2.2.2.1 p.2.2.2.2.2.1 p.2.2.2.2.2.2.1 p.2.2.2.2.2.2.2.1 p.2.2.2.2.2.2.2.2.1 p.2.2.2.2.2.2.2.2.2.1 p.2.2.2.2.2.2.2.2.2.2⟩
noncomputable abbrev K43 : Cons := [(47, C47), (84, C84), (100, C100), (110, C110), (111, C111), (112, C112)]
noncomputable abbrev L43 : List (Nat × Loops) := []
abbrev Q43 : List (Nat × List (Int × Nat) × Nat) := []
noncomputable abbrev X43 : Nat → Ctx := ctxOf tb K43 L43 Q43
theorem E43 : ∀ x, funRun fs X43 6 43 C43 x = C43.fn x := fun x => by kernel_rfl
theorem B43 : ConB Tryz.prog 43 C43 := ConB.make FS MIX TY (cons := K43) (L := L43) (ptrs := Q43) ⟨S47, S84, S100, S110, S111, S112, trivial⟩ trivial trivial rfl rfl E43
theorem S43 : ConS Tryz.prog 43 C43 := B43.call rfl
noncomputable def f_spec_DrawWant.l0 : Nat → (List Int) → Int → Int → Int → Option (List Int × Int × Int)
 | 0, _, _, _, _ => none
 | n + 1, p0, p1, p2, p3 =>
 bif (decide (p2 < (p0.length : Int))) then
 bif (decide (p2 < (4000 : Int))) then
 bif ((decide ((0 : Int) ≤ p2)) && (decide (p2 < (p0.length : Int)))) then
 f_spec_DrawWant.l0 n p0 (bitI .and .i64 (IntKind.wrap .i64 ((IntKind.wrap .i64 ((IntKind.wrap .i64 (p1 * (131 : Int))) + (IntKind.wrap .i64 ((p0.getD p2.toNat 0))))) + (7 : Int))) (1073741823 : Int)) (IntKind.wrap .i64 (p2 + (1 : Int))) p3
 else none
 else
 some (p0, p1, p3)
 else
 some (p0, p1, p3)
noncomputable def f_spec_DrawWant (x0 : List Int) : Option (Int × tyF × tyH × tyS × List Int × Int × Int × Bool) :=
 (f_spec_DrawWant.l0 N x0 (IntKind.wrap .i64 ((20404 : Int) + (x0.length : Int))) 0 0).bind fun r0 =>
 (f_spec_l5Draw r0.1 0 r0.2.1).bind fun y1 =>
 (f_spec_l1Below r0.1 y1.2.2.2.2.2.2.1 y1.2.2.2.2.2.2.2 8).bind fun y2 =>
 (f_spec_l1Once r0.1 y2.2.1 y2.2.2 2).bind fun y3 =>
 some (y1.1, y1.2.1, y1.2.2.1, y1.2.2.2.1, y1.2.2.2.2.1, y1.2.2.2.2.2.1, (IntKind.wrap .i64 (y2.1 - (1 : Int))), y3.1)
noncomputable def C45 : Con := ⟨[(.B, false, [(.sl R0)])], [(true, [iI, (.sl R4), (.sl R5), (.sl R7), (.sl R1)]), (false, [iI]), (false, [iI]), (false, [.bool])], [(.sl R0)], [iI, (.sl R4), (.sl R5), (.sl R7), (.sl R1), iI, iI, .bool], fun (p : List Int) => f_spec_DrawWant p⟩
noncomputable abbrev f_spec_DrawWant.l0.u (n : Nat) := fun (p : List Int × Int × Int × Int) => f_spec_DrawWant.l0 n p.1 p.2.1 p.2.2.1 p.2.2.2
noncomputable def f_spec_DrawWant.l0.c : LoopCon := ⟨1113, 5, [0, 3, 4], ⟨[(0, bN R0), (3, i0), (4, i0)], [(1001, .box [i0, .nil (some R4), .nil (some R5), .nil (some R7), .nil (some R1)])], 1113⟩, [(.sl R0), iI, iI, iI], [⟨.exit 0, [0, 3], ⟨[(0, bN R0), (3, i0)], [(1001, .box [i0, .nil (some R4), .nil (some R5), .nil (some R7), .nil (some R1)])], 1113⟩, [(.sl R0), iI, iI]⟩], f_spec_DrawWant.l0.u N⟩
noncomputable abbrev K45 : Cons := [(106, C106), (107, C107), (109, C109)]
noncomputable abbrev L45 : List (Nat × Loops) := [(104, [(3, f_spec_DrawWant.l0.c)])]
abbrev Q45 : List (Nat × List (Int × Nat) × Nat) := []
noncomputable abbrev X45 : Nat → Ctx := ctxOf tb K45 L45 Q45
theorem f_spec_DrawWant.l0.ok : ∀ n p, f_spec_DrawWant.l0.u n p = iterD (roundOf fs X45 5 104 3 true f_spec_DrawWant.l0.c) n p :=
 iter_of (l := f_spec_DrawWant.l0.u) (fun _ => rfl) (fun n p => by kernel_rfl)
theorem E45 : ∀ x, funRun fs X45 6 45 C45 x = C45.fn x := fun x => by kernel_rfl
theorem B45 : ConB Tryz.prog 45 C45 := ConB.make FS MIX TY (cons := K45) (L := L45) (ptrs := Q45) ⟨S106, S107, S109, trivial⟩ trivial ⟨⟨⟨N, fun p => f_spec_DrawWant.l0.ok N p⟩, trivial⟩, trivial⟩ rfl rfl E45
theorem S45 : ConS Tryz.prog 45 C45 := B45.call rfl
noncomputable def f_impl_lacks (x0 : Int) (x1 : List Int) (x2 : Bool) (x3 : Bool) : Option (Bool) :=
 bif (decide (x0 = (0 : Int))) then
 some true
 else
 bif x3 then
 some (!(decide (x0 = (2 : Int))))
 else
 some false
noncomputable def C85 : Con := ⟨[(.B, true, [iI, (.sl R1), .bool]), (.B, false, [.bool])], [(false, [.bool])], [iI, (.sl R1), .bool, .bool], [.bool], fun (p : Int × List Int × Bool × Bool) => f_impl_lacks p.1 p.2.1 p.2.2.1 p.2.2.2⟩
noncomputable abbrev K85 : Cons := []
noncomputable abbrev L85 : List (Nat × Loops) := []
abbrev Q85 : List (Nat × List (Int × Nat) × Nat) := []
noncomputable abbrev X85 : Nat → Ctx := ctxOf tb K85 L85 Q85
theorem E85 : ∀ x, funRun fs X85 6 85 C85 x = C85.fn x := fun x => by kernel_rfl
theorem B85 : ConB Tryz.prog 85 C85 := ConB.make FS MIX TY (cons := K85) (L := L85) (ptrs := Q85) trivial trivial trivial rfl rfl E85
theorem S85 : ConS Tryz.prog 85 C85 := B85.call rfl
noncomputable def f_impl_Want (x0 : Int) (x1 : tyF) (x2 : tyH) (x3 : tyS) (x4 : List Int) (x5 : Int) (x6 : Int) (x7 : Bool) : Option (Int × tyF × tyH × tyS × List Int × Bool) :=
 (f_impl_copyNode x0 x1 x2 x3 x4).bind fun y0 =>
 (f_impl_NodeOk x0 x1 x2 x3 x4 x5).bind fun y1 =>
 bif (!y1) then
 some (y0.1, y0.2.1, y0.2.2.1, y0.2.2.2.1, y0.2.2.2.2, false)
 else
 (f_impl_isPage x6).bind fun y2 =>
 bif (!y2) then
 some (y0.1, y0.2.1, y0.2.2.1, y0.2.2.2.1, y0.2.2.2.2, false)
 else
 bif ((decide ((0 : Int) ≤ x6)) && (decide (x6 < (x1.length : Int)))) then
 bif (x1.getD x6.toNat (0, [], false)).2.2 then
 some (y0.1, y0.2.1, y0.2.2.1, y0.2.2.2.1, y0.2.2.2.2, false)
 else
 bif ((decide ((0 : Int) ≤ x6)) && (decide (x6 < (x1.length : Int)))) then
 (f_impl_lacks ((x1.getD x6.toNat (0, [], false)).1) ((x1.getD x6.toNat (0, [], false)).2.1) ((x1.getD x6.toNat (0, [], false)).2.2) x7).bind fun y3 =>
 bif (!y3) then
 some (y0.1, y0.2.1, y0.2.2.1, y0.2.2.2.1, y0.2.2.2.2, false)
 else
 bif x7 then
 bif (decide (x5 = (0 : Int))) then none else
 bif ((decide ((0 : Int) ≤ (Int.tmod x6 x5))) && (decide ((Int.tmod x6 x5) < (y0.2.2.2.1.length : Int)))) then
 (f_impl_Queue ((y0.2.2.2.1.getD (Int.tmod x6 x5).toNat (0, [])).1) ((y0.2.2.2.1.getD (Int.tmod x6 x5).toNat (0, [])).2) 2 x6 false []).bind fun y4 =>
 bif (!y4.2.2) then
 some (y0.1, y0.2.1, y0.2.2.1, y0.2.2.2.1, y0.2.2.2.2, false)
 else
 bif ((decide ((0 : Int) ≤ (Int.tmod x6 x5))) && (decide ((Int.tmod x6 x5) < (y0.2.2.2.1.length : Int)))) then
 (some ((y0.2.2.2.1.set (Int.tmod x6 x5).toNat (y4.1, y4.2.1)) : tyS)).bind fun z5 =>
 bif ((decide ((0 : Int) ≤ x6)) && (decide (x6 < (y0.2.1.length : Int)))) then
 (some ((y0.2.1.set x6.toNat ((y0.2.1.getD x6.toNat (0, [], false)).1, (y0.2.1.getD x6.toNat (0, [], false)).2.1, true)) : tyF)).bind fun z6 =>
 some (y0.1, z6, y0.2.2.1, z5, y0.2.2.2.2, true)
 else none
 else none
 else none
 else
 bif (decide (x5 = (0 : Int))) then none else
 bif ((decide ((0 : Int) ≤ (Int.tmod x6 x5))) && (decide ((Int.tmod x6 x5) < (y0.2.2.2.1.length : Int)))) then
 (f_impl_Queue ((y0.2.2.2.1.getD (Int.tmod x6 x5).toNat (0, [])).1) ((y0.2.2.2.1.getD (Int.tmod x6 x5).toNat (0, [])).2) 1 x6 false []).bind fun y7 =>
 bif (!y7.2.2) then
 some (y0.1, y0.2.1, y0.2.2.1, y0.2.2.2.1, y0.2.2.2.2, false)
 else
 bif ((decide ((0 : Int) ≤ (Int.tmod x6 x5))) && (decide ((Int.tmod x6 x5) < (y0.2.2.2.1.length : Int)))) then
 (some ((y0.2.2.2.1.set (Int.tmod x6 x5).toNat (y7.1, y7.2.1)) : tyS)).bind fun z8 =>
 bif ((decide ((0 : Int) ≤ x6)) && (decide (x6 < (y0.2.1.length : Int)))) then
 (some ((y0.2.1.set x6.toNat ((y0.2.1.getD x6.toNat (0, [], false)).1, (y0.2.1.getD x6.toNat (0, [], false)).2.1, true)) : tyF)).bind fun z9 =>
 some (y0.1, z9, y0.2.2.1, z8, y0.2.2.2.2, true)
 else none
 else none
 else none
 else none
 else none
noncomputable def C21 : Con := ⟨[(.B, true, [iI, (.sl R4), (.sl R5), (.sl R7), (.sl R1)]), (.B, false, [iI]), (.B, false, [iI]), (.B, false, [.bool])], [(true, [iI, (.sl R4), (.sl R5), (.sl R7), (.sl R1)]), (false, [.bool])], [iI, (.sl R4), (.sl R5), (.sl R7), (.sl R1), iI, iI, .bool], [iI, (.sl R4), (.sl R5), (.sl R7), (.sl R1), .bool], fun (p : Int × tyF × tyH × tyS × List Int × Int × Int × Bool) => f_impl_Want p.1 p.2.1 p.2.2.1 p.2.2.2.1 p.2.2.2.2.1 p.2.2.2.2.2.1 p.2.2.2.2.2.2.1 p.2.2.2.2.2.2.2⟩
noncomputable abbrev K21 : Cons := [(47, C47), (65, C65), (84, C84), (85, C85), (86, C86)]
noncomputable abbrev L21 : List (Nat × Loops) := []
abbrev Q21 : List (Nat × List (Int × Nat) × Nat) := []
noncomputable abbrev X21 : Nat → Ctx := ctxOf tb K21 L21 Q21
theorem E21 : ∀ x, funRun fs X21 6 21 C21 x = C21.fn x := fun x => by kernel_rfl
theorem B21 : ConB Tryz.prog 21 C21 := ConB.make FS MIX TY (cons := K21) (L := L21) (ptrs := Q21) ⟨S47, S65, S84, S85, S86, trivial⟩ trivial trivial rfl rfl E21
theorem S21 : ConS Tryz.prog 21 C21 := B21.call rfl
noncomputable def f_laws_sameInts.l0 : Nat → (List Int) → (List Int) → Bool → Int → Option ((Bool) ⊕ (Bool))
 | 0, _, _, _, _ => none
 | n + 1, p0, p1, p2, p3 =>
 bif (decide (p3 < (p0.length : Int))) then
 bif ((decide ((0 : Int) ≤ p3)) && (decide (p3 < (p0.length : Int)))) then
 bif ((decide ((0 : Int) ≤ p3)) && (decide (p3 < (p1.length : Int)))) then
 bif (!(decide ((p0.getD p3.toNat 0) = (p1.getD p3.toNat 0)))) then
 some (.inl false)
 else
 f_laws_sameInts.l0 n p0 p1 p2 (IntKind.wrap .i64 (p3 + (1 : Int)))
 else none
 else none
 else
 some (.inr p2)
noncomputable def f_laws_sameInts (x0 : List Int) (x1 : List Int) : Option (Bool) :=
 bif (!(decide ((x0.length : Int) = (x1.length : Int)))) then
 some false
 else
 (f_laws_sameInts.l0 N x0 x1 false 0).bind fun r0 =>
 cs r0 (fun a1 =>
 some a1) (fun b2 =>
 some true)
noncomputable def C37 : Con := ⟨[(.B, false, [(.sl R1)]), (.B, false, [(.sl R1)])], [(false, [.bool])], [(.sl R1), (.sl R1)], [.bool], fun (p : List Int × List Int) => f_laws_sameInts p.1 p.2⟩
noncomputable abbrev f_laws_sameInts.l0.u (n : Nat) := fun (p : List Int × List Int × Bool × Int) => f_laws_sameInts.l0 n p.1 p.2.1 p.2.2.1 p.2.2.2
noncomputable def f_laws_sameInts.l0.c : LoopCon := ⟨1000, 6, [0, 1, 4, 5], ⟨[(0, bN R1), (1, bN R1), (4, .bool false), (5, i0)], [], 1000⟩, [(.sl R1), (.sl R1), .bool, iI], [⟨.ret, [4], ⟨[(4, .bool false)], [], 1000⟩, [.bool]⟩, ⟨.exit 0, [4], ⟨[(4, .bool false)], [], 1000⟩, [.bool]⟩], f_laws_sameInts.l0.u N⟩
noncomputable abbrev K37 : Cons := []
noncomputable abbrev L37 : List (Nat × Loops) := [(37, [(4, f_laws_sameInts.l0.c)])]
abbrev Q37 : List (Nat × List (Int × Nat) × Nat) := []
noncomputable abbrev X37 : Nat → Ctx := ctxOf tb K37 L37 Q37
theorem f_laws_sameInts.l0.ok : ∀ n p, f_laws_sameInts.l0.u n p = iterD (roundOf fs X37 6 37 4 false f_laws_sameInts.l0.c) n p :=
 iter_of (l := f_laws_sameInts.l0.u) (fun _ => rfl) (fun n p => by kernel_rfl)
theorem E37 : ∀ x, funRun fs X37 6 37 C37 x = C37.fn x := fun x => by kernel_rfl
theorem B37 : ConB Tryz.prog 37 C37 := ConB.make FS MIX TY (cons := K37) (L := L37) (ptrs := Q37) trivial trivial ⟨⟨⟨N, fun p => f_laws_sameInts.l0.ok N p⟩, trivial⟩, trivial⟩ rfl rfl E37
theorem S37 : ConS Tryz.prog 37 C37 := B37.call rfl
noncomputable def f_laws_sameHome.l1 : Nat → Bool → Int → (List Int) → Int → (List Bool) → Bool → Int → Bool → Int → tyW → (List Int) → Int → (List Bool) → Bool → Int → Bool → Int → tyW → Option ((Bool) ⊕ (Bool))
 | 0, _, _, _, _, _, _, _, _, _, _, _, _, _, _, _, _, _, _ => none
 | n + 1, p0, p1, p2, p3, p4, p5, p6, p7, p8, p9, p10, p11, p12, p13, p14, p15, p16, p17 =>
 bif (decide (p1 < (p9.length : Int))) then
 bif ((decide ((0 : Int) ≤ p1)) && (decide (p1 < (p9.length : Int)))) then
 bif ((decide ((0 : Int) ≤ p1)) && (decide (p1 < (p17.length : Int)))) then
 bif (!((decide (((p9.getD p1.toNat (0, false)).1) = ((p17.getD p1.toNat (0, false)).1))) && (((p9.getD p1.toNat (0, false)).2) == ((p17.getD p1.toNat (0, false)).2)))) then
 some (.inl false)
 else
 f_laws_sameHome.l1 n p0 (IntKind.wrap .i64 (p1 + (1 : Int))) p2 p3 p4 p5 p6 p7 p8 p9 p10 p11 p12 p13 p14 p15 p16 p17
 else none
 else none
 else
 some (.inr p0)
noncomputable def f_laws_sameHome.l0 : Nat → Bool → Int → (List Int) → Int → (List Bool) → Bool → Int → Bool → Int → tyW → (List Int) → Int → (List Bool) → Bool → Int → Bool → Int → tyW → Option ((Bool) ⊕ (Bool × List Int × Int × List Bool × Bool × Int × Bool × Int × tyW × List Int × Int × List Bool × Bool × Int × Bool × Int × tyW))
 | 0, _, _, _, _, _, _, _, _, _, _, _, _, _, _, _, _, _, _ => none
 | n + 1, p0, p1, p2, p3, p4, p5, p6, p7, p8, p9, p10, p11, p12, p13, p14, p15, p16, p17 =>
 bif (decide (p1 < (p4.length : Int))) then
 bif ((decide ((0 : Int) ≤ p1)) && (decide (p1 < (p4.length : Int)))) then
 bif ((decide ((0 : Int) ≤ p1)) && (decide (p1 < (p12.length : Int)))) then
 bif (!((p4.getD p1.toNat false) == (p12.getD p1.toNat false))) then
 some (.inl false)
 else
 f_laws_sameHome.l0 n p0 (IntKind.wrap .i64 (p1 + (1 : Int))) p2 p3 p4 p5 p6 p7 p8 p9 p10 p11 p12 p13 p14 p15 p16 p17
 else none
 else none
 else
 some (.inr (p0, p2, p3, p4, p5, p6, p7, p8, p9, p10, p11, p12, p13, p14, p15, p16, p17))
noncomputable def f_laws_sameHome (x0 : List Int) (x1 : Int) (x2 : List Bool) (x3 : Bool) (x4 : Int) (x5 : Bool) (x6 : Int) (x7 : tyW) (x8 : List Int) (x9 : Int) (x10 : List Bool) (x11 : Bool) (x12 : Int) (x13 : Bool) (x14 : Int) (x15 : tyW) : Option (Bool) :=
 bif (!(decide (x1 = x9))) then
 some false
 else
 bif (!(x3 == x11)) then
 some false
 else
 bif (!((decide (x4 = x12)) && (x5 == x13))) then
 some false
 else
 bif (!(decide (x6 = x14))) then
 some false
 else
 (f_laws_sameInts x0 x8).bind fun y0 =>
 bif (!y0) then
 some false
 else
 bif (!(decide ((x2.length : Int) = (x10.length : Int)))) then
 some false
 else
 bif (!(decide ((x7.length : Int) = (x15.length : Int)))) then
 some false
 else
 (f_laws_sameHome.l0 N false 0 x0 x1 x2 x3 x4 x5 x6 x7 x8 x9 x10 x11 x12 x13 x14 x15).bind fun r1 =>
 cs r1 (fun a2 =>
 some a2) (fun b3 =>
 (f_laws_sameHome.l1 N b3.1 0 b3.2.1 b3.2.2.1 b3.2.2.2.1 b3.2.2.2.2.1 b3.2.2.2.2.2.1 b3.2.2.2.2.2.2.1 b3.2.2.2.2.2.2.2.1 b3.2.2.2.2.2.2.2.2.1 b3.2.2.2.2.2.2.2.2.2.1 b3.2.2.2.2.2.2.2.2.2.2.1 b3.2.2.2.2.2.2.2.2.2.2.2.1 b3.2.2.2.2.2.2.2.2.2.2.2.2.1 b3.2.2.2.2.2.2.2.2.2.2.2.2.2.1 b3.2.2.2.2.2.2.2.2.2.2.2.2.2.2.1 b3.2.2.2.2.2.2.2.2.2.2.2.2.2.2.2.1 b3.2.2.2.2.2.2.2.2.2.2.2.2.2.2.2.2).bind fun r4 =>
 cs r4 (fun a5 =>
 some a5) (fun b6 =>
 some true))
noncomputable def C117 : Con := ⟨[(.B, true, [(.sl R1), iI, (.sl R2), .bool, iI, .bool, iI, (.sl R3)]), (.B, true, [(.sl R1), iI, (.sl R2), .bool, iI, .bool, iI, (.sl R3)])], [(false, [.bool])], [(.sl R1), iI, (.sl R2), .bool, iI, .bool, iI, (.sl R3), (.sl R1), iI, (.sl R2), .bool, iI, .bool, iI, (.sl R3)], [.bool], fun (p : List Int × Int × List Bool × Bool × Int × Bool × Int × tyW × List Int × Int × List Bool × Bool × Int × Bool × Int × tyW) => f_laws_sameHome p.1 p.2.1 p.2.2.1 p.2.2.2.1 p.2.2.2.2.1 p.2.2.2.2.2.1 p.2.2.2.2.2.2.1 p.2.2.2.2.2.2.2.1 p.2.2.2.2.2.2.2.2.1 p.2.2.2.2.2.2.2.2.2.1 p.2.2.2.2.2.2.2.2.2.2.1 p.2.2.2.2.2.2.2.2.2.2.2.1 p.2.2.2.2.2.2.2.2.2.2.2.2.1 p.2.2.2.2.2.2.2.2.2.2.2.2.2.1 p.2.2.2.2.2.2.2.2.2.2.2.2.2.2.1 p.2.2.2.2.2.2.2.2.2.2.2.2.2.2.2⟩
noncomputable abbrev f_laws_sameHome.l0.u (n : Nat) := fun (p : Bool × Int × List Int × Int × List Bool × Bool × Int × Bool × Int × tyW × List Int × Int × List Bool × Bool × Int × Bool × Int × tyW) => f_laws_sameHome.l0 n p.1 p.2.1 p.2.2.1 p.2.2.2.1 p.2.2.2.2.1 p.2.2.2.2.2.1 p.2.2.2.2.2.2.1 p.2.2.2.2.2.2.2.1 p.2.2.2.2.2.2.2.2.1 p.2.2.2.2.2.2.2.2.2.1 p.2.2.2.2.2.2.2.2.2.2.1 p.2.2.2.2.2.2.2.2.2.2.2.1 p.2.2.2.2.2.2.2.2.2.2.2.2.1 p.2.2.2.2.2.2.2.2.2.2.2.2.2.1 p.2.2.2.2.2.2.2.2.2.2.2.2.2.2.1 p.2.2.2.2.2.2.2.2.2.2.2.2.2.2.2.1 p.2.2.2.2.2.2.2.2.2.2.2.2.2.2.2.2.1 p.2.2.2.2.2.2.2.2.2.2.2.2.2.2.2.2.2
noncomputable def f_laws_sameHome.l0.c : LoopCon := ⟨1000, 6, [2, 3, 4, 5], ⟨[(2, .ptr 1000 0), (3, .ptr 1001 0), (4, .bool false), (5, i0)], [(1000, .box [bN R1, i0, bN R2, .bool false, i0, .bool false, i0, bN R3]), (1001, .box [bN R1, i0, bN R2, .bool false, i0, .bool false, i0, bN R3])], 1002⟩, [.bool, iI, (.sl R1), iI, (.sl R2), .bool, iI, .bool, iI, (.sl R3), (.sl R1), iI, (.sl R2), .bool, iI, .bool, iI, (.sl R3)], [⟨.ret, [4], ⟨[(4, .bool false)], [], 1000⟩, [.bool]⟩, ⟨.exit 0, [2, 3, 4], ⟨[(2, .ptr 1000 0), (3, .ptr 1001 0), (4, .bool false)], [(1000, .box [bN R1, i0, bN R2, .bool false, i0, .bool false, i0, bN R3]), (1001, .box [bN R1, i0, bN R2, .bool false, i0, .bool false, i0, bN R3])], 1002⟩, [.bool, (.sl R1), iI, (.sl R2), .bool, iI, .bool, iI, (.sl R3), (.sl R1), iI, (.sl R2), .bool, iI, .bool, iI, (.sl R3)]⟩], f_laws_sameHome.l0.u N⟩
noncomputable abbrev f_laws_sameHome.l1.u (n : Nat) := fun (p : Bool × Int × List Int × Int × List Bool × Bool × Int × Bool × Int × tyW × List Int × Int × List Bool × Bool × Int × Bool × Int × tyW) => f_laws_sameHome.l1 n p.1 p.2.1 p.2.2.1 p.2.2.2.1 p.2.2.2.2.1 p.2.2.2.2.2.1 p.2.2.2.2.2.2.1 p.2.2.2.2.2.2.2.1 p.2.2.2.2.2.2.2.2.1 p.2.2.2.2.2.2.2.2.2.1 p.2.2.2.2.2.2.2.2.2.2.1 p.2.2.2.2.2.2.2.2.2.2.2.1 p.2.2.2.2.2.2.2.2.2.2.2.2.1 p.2.2.2.2.2.2.2.2.2.2.2.2.2.1 p.2.2.2.2.2.2.2.2.2.2.2.2.2.2.1 p.2.2.2.2.2.2.2.2.2.2.2.2.2.2.2.1 p.2.2.2.2.2.2.2.2.2.2.2.2.2.2.2.2.1 p.2.2.2.2.2.2.2.2.2.2.2.2.2.2.2.2.2
noncomputable def f_laws_sameHome.l1.c : LoopCon := ⟨1000, 6, [2, 3, 4, 6], ⟨[(2, .ptr 1000 0), (3, .ptr 1001 0), (4, .bool false), (6, i0)], [(1000, .box [bN R1, i0, bN R2, .bool false, i0, .bool false, i0, bN R3]), (1001, .box [bN R1, i0, bN R2, .bool false, i0, .bool false, i0, bN R3])], 1002⟩, [.bool, iI, (.sl R1), iI, (.sl R2), .bool, iI, .bool, iI, (.sl R3), (.sl R1), iI, (.sl R2), .bool, iI, .bool, iI, (.sl R3)], [⟨.ret, [4], ⟨[(4, .bool false)], [], 1000⟩, [.bool]⟩, ⟨.exit 2, [4], ⟨[(4, .bool false)], [], 1000⟩, [.bool]⟩], f_laws_sameHome.l1.u N⟩
noncomputable abbrev K117 : Cons := [(37, C37)]
noncomputable abbrev L117 : List (Nat × Loops) := [(117, [(4, f_laws_sameHome.l0.c), (9, f_laws_sameHome.l1.c)])]
abbrev Q117 : List (Nat × List (Int × Nat) × Nat) := []
noncomputable abbrev X117 : Nat → Ctx := ctxOf tb K117 L117 Q117
theorem f_laws_sameHome.l0.ok : ∀ n p, f_laws_sameHome.l0.u n p = iterD (roundOf fs X117 6 117 4 false f_laws_sameHome.l0.c) n p :=
 iter_of (l := f_laws_sameHome.l0.u) (fun _ => rfl) (fun n p => by kernel_rfl)
theorem f_laws_sameHome.l1.ok : ∀ n p, f_laws_sameHome.l1.u n p = iterD (roundOf fs X117 6 117 9 false f_laws_sameHome.l1.c) n p :=
 iter_of (l := f_laws_sameHome.l1.u) (fun _ => rfl) (fun n p => by kernel_rfl)
theorem E117 : ∀ x, funRun fs X117 6 117 C117 x = C117.fn x := fun x => by kernel_rfl
theorem B117 : ConB Tryz.prog 117 C117 := ConB.make FS MIX TY (cons := K117) (L := L117) (ptrs := Q117) ⟨S37, trivial⟩ trivial ⟨⟨⟨N, fun p => f_laws_sameHome.l0.ok N p⟩, ⟨N, fun p => f_laws_sameHome.l1.ok N p⟩, trivial⟩, trivial⟩ rfl rfl E117
theorem S117 : ConS Tryz.prog 117 C117 := B117.call rfl
noncomputable def f_laws_sameNode.l2 : Nat → Bool → Int → Int → tyF → tyH → tyS → (List Int) → Int → tyF → tyH → tyS → (List Int) → Option ((Bool) ⊕ (Bool))
 | 0, _, _, _, _, _, _, _, _, _, _, _, _ => none
 | n + 1, p0, p1, p2, p3, p4, p5, p6, p7, p8, p9, p10, p11 =>
 bif (decide (p1 < (p5.length : Int))) then
 bif ((decide ((0 : Int) ≤ p1)) && (decide (p1 < (p5.length : Int)))) then
 bif ((decide ((0 : Int) ≤ p1)) && (decide (p1 < (p10.length : Int)))) then
 bif (!(decide (((p5.getD p1.toNat (0, [])).1) = ((p10.getD p1.toNat (0, [])).1)))) then
 some (.inl false)
 else
 bif ((decide ((0 : Int) ≤ p1)) && (decide (p1 < (p5.length : Int)))) then
 bif ((decide ((0 : Int) ≤ p1)) && (decide (p1 < (p10.length : Int)))) then
 bif (!(decide ((((p5.getD p1.toNat (0, [])).2).length : Int) = (((p10.getD p1.toNat (0, [])).2).length : Int)))) then
 some (.inl false)
 else
 bif (decide (p1 < (p6.length : Int))) then
 bif ((decide ((0 : Int) ≤ p1)) && (decide (p1 < (p6.length : Int)))) then
 bif ((decide ((0 : Int) ≤ p1)) && (decide (p1 < (p11.length : Int)))) then
 bif (!(decide ((p6.getD p1.toNat 0) = (p11.getD p1.toNat 0)))) then
 some (.inl false)
 else
 f_laws_sameNode.l2 n p0 (IntKind.wrap .i64 (p1 + (1 : Int))) p2 p3 p4 p5 p6 p7 p8 p9 p10 p11
 else none
 else none
 else
 f_laws_sameNode.l2 n p0 (IntKind.wrap .i64 (p1 + (1 : Int))) p2 p3 p4 p5 p6 p7 p8 p9 p10 p11
 else none
 else none
 else none
 else none
 else
 some (.inr p0)
noncomputable def f_laws_sameNode.l1 : Nat → Bool → Int → Int → tyF → tyH → tyS → (List Int) → Int → tyF → tyH → tyS → (List Int) → Option ((Bool) ⊕ (Bool × Int × tyF × tyH × tyS × List Int × Int × tyF × tyH × tyS × List Int))
 | 0, _, _, _, _, _, _, _, _, _, _, _, _ => none
 | n + 1, p0, p1, p2, p3, p4, p5, p6, p7, p8, p9, p10, p11 =>
 bif (decide (p1 < (p4.length : Int))) then
 bif ((decide ((0 : Int) ≤ p1)) && (decide (p1 < (p4.length : Int)))) then
 bif ((decide ((0 : Int) ≤ p1)) && (decide (p1 < (p9.length : Int)))) then
 (f_laws_sameHome ((p4.getD p1.toNat ([], 0, [], false, 0, false, 0, [])).1) ((p4.getD p1.toNat ([], 0, [], false, 0, false, 0, [])).2.1) ((p4.getD p1.toNat ([], 0, [], false, 0, false, 0, [])).2.2.1) ((p4.getD p1.toNat ([], 0, [], false, 0, false, 0, [])).2.2.2.1) ((p4.getD p1.toNat ([], 0, [], false, 0, false, 0, [])).2.2.2.2.1) ((p4.getD p1.toNat ([], 0, [], false, 0, false, 0, [])).2.2.2.2.2.1) ((p4.getD p1.toNat ([], 0, [], false, 0, false, 0, [])).2.2.2.2.2.2.1) ((p4.getD p1.toNat ([], 0, [], false, 0, false, 0, [])).2.2.2.2.2.2.2) ((p9.getD p1.toNat ([], 0, [], false, 0, false, 0, [])).1) ((p9.getD p1.toNat ([], 0, [], false, 0, false, 0, [])).2.1) ((p9.getD p1.toNat ([], 0, [], false, 0, false, 0, [])).2.2.1) ((p9.getD p1.toNat ([], 0, [], false, 0, false, 0, [])).2.2.2.1) ((p9.getD p1.toNat ([], 0, [], false, 0, false, 0, [])).2.2.2.2.1) ((p9.getD p1.toNat ([], 0, [], false, 0, false, 0, [])).2.2.2.2.2.1) ((p9.getD p1.toNat ([], 0, [], false, 0, false, 0, [])).2.2.2.2.2.2.1) ((p9.getD p1.toNat ([], 0, [], false, 0, false, 0, [])).2.2.2.2.2.2.2)).bind fun y12 =>
 bif (!y12) then
 some (.inl false)
 else
 f_laws_sameNode.l1 n p0 (IntKind.wrap .i64 (p1 + (1 : Int))) p2 p3 p4 p5 p6 p7 p8 p9 p10 p11
 else none
 else none
 else
 some (.inr (p0, p2, p3, p4, p5, p6, p7, p8, p9, p10, p11))
noncomputable def f_laws_sameNode.l0 : Nat → Bool → Int → Int → tyF → tyH → tyS → (List Int) → Int → tyF → tyH → tyS → (List Int) → Option ((Bool) ⊕ (Bool × Int × tyF × tyH × tyS × List Int × Int × tyF × tyH × tyS × List Int))
 | 0, _, _, _, _, _, _, _, _, _, _, _, _ => none
 | n + 1, p0, p1, p2, p3, p4, p5, p6, p7, p8, p9, p10, p11 =>
 bif (decide (p1 < (p3.length : Int))) then
 bif ((decide ((0 : Int) ≤ p1)) && (decide (p1 < (p3.length : Int)))) then
 bif ((decide ((0 : Int) ≤ p1)) && (decide (p1 < (p8.length : Int)))) then
 bif (!(decide (((p3.getD p1.toNat (0, [], false)).1) = ((p8.getD p1.toNat (0, [], false)).1)))) then
 some (.inl false)
 else
 bif ((decide ((0 : Int) ≤ p1)) && (decide (p1 < (p3.length : Int)))) then
 bif ((decide ((0 : Int) ≤ p1)) && (decide (p1 < (p8.length : Int)))) then
 bif (!(((p3.getD p1.toNat (0, [], false)).2.2) == ((p8.getD p1.toNat (0, [], false)).2.2))) then
 some (.inl false)
 else
 bif ((decide ((0 : Int) ≤ p1)) && (decide (p1 < (p3.length : Int)))) then
 bif ((decide ((0 : Int) ≤ p1)) && (decide (p1 < (p8.length : Int)))) then
 (f_laws_sameInts ((p3.getD p1.toNat (0, [], false)).2.1) ((p8.getD p1.toNat (0, [], false)).2.1)).bind fun y12 =>
 bif (!y12) then
 some (.inl false)
 else
 f_laws_sameNode.l0 n p0 (IntKind.wrap .i64 (p1 + (1 : Int))) p2 p3 p4 p5 p6 p7 p8 p9 p10 p11
 else none
 else none
 else none
 else none
 else none
 else none
 else
 some (.inr (p0, p2, p3, p4, p5, p6, p7, p8, p9, p10, p11))
noncomputable def f_laws_sameNode (x0 : Int) (x1 : tyF) (x2 : tyH) (x3 : tyS) (x4 : List Int) (x5 : Int) (x6 : tyF) (x7 : tyH) (x8 : tyS) (x9 : List Int) : Option (Bool) :=
 bif (!(decide (x0 = x5))) then
 some false
 else
 bif (!(decide ((x1.length : Int) = (x6.length : Int)))) then
 some false
 else
 bif (!(decide ((x2.length : Int) = (x7.length : Int)))) then
 some false
 else
 bif (!(decide ((x3.length : Int) = (x8.length : Int)))) then
 some false
 else
 bif (!(decide ((x4.length : Int) = (x9.length : Int)))) then
 some false
 else
 (f_laws_sameNode.l0 N false 0 x0 x1 x2 x3 x4 x5 x6 x7 x8 x9).bind fun r0 =>
 cs r0 (fun a1 =>
 some a1) (fun b2 =>
 (f_laws_sameNode.l1 N b2.1 0 b2.2.1 b2.2.2.1 b2.2.2.2.1 b2.2.2.2.2.1 b2.2.2.2.2.2.1 b2.2.2.2.2.2.2.1 b2.2.2.2.2.2.2.2.1 b2.2.2.2.2.2.2.2.2.1 b2.2.2.2.2.2.2.2.2.2.1 b2.2.2.2.2.2.2.2.2.2.2).bind fun r3 =>
 cs r3 (fun a4 =>
 some a4) (fun b5 =>
 (f_laws_sameNode.l2 N b5.1 0 b5.2.1 b5.2.2.1 b5.2.2.2.1 b5.2.2.2.2.1 b5.2.2.2.2.2.1 b5.2.2.2.2.2.2.1 b5.2.2.2.2.2.2.2.1 b5.2.2.2.2.2.2.2.2.1 b5.2.2.2.2.2.2.2.2.2.1 b5.2.2.2.2.2.2.2.2.2.2).bind fun r6 =>
 cs r6 (fun a7 =>
 some a7) (fun b8 =>
 some true)))
noncomputable def C46 : Con := ⟨[(.B, true, [iI, (.sl R4), (.sl R5), (.sl R7), (.sl R1)]), (.B, true, [iI, (.sl R4), (.sl R5), (.sl R7), (.sl R1)])], [(false, [.bool])], [iI, (.sl R4), (.sl R5), (.sl R7), (.sl R1), iI, (.sl R4), (.sl R5), (.sl R7), (.sl R1)], [.bool], fun (p : Int × tyF × tyH × tyS × List Int × Int × tyF × tyH × tyS × List Int) => f_laws_sameNode p.1 p.2.1 p.2.2.1 p.2.2.2.1 p.2.2.2.2.1 p.2.2.2.2.2.1 p.2.2.2.2.2.2.1 p.2.2.2.2.2.2.2.1 p.2.2.2.2.2.2.2.2.1 p.2.2.2.2.2.2.2.2.2⟩
noncomputable abbrev f_laws_sameNode.l0.u (n : Nat) := fun (p : Bool × Int × Int × tyF × tyH × tyS × List Int × Int × tyF × tyH × tyS × List Int) => f_laws_sameNode.l0 n p.1 p.2.1 p.2.2.1 p.2.2.2.1 p.2.2.2.2.1 p.2.2.2.2.2.1 p.2.2.2.2.2.2.1 p.2.2.2.2.2.2.2.1 p.2.2.2.2.2.2.2.2.1 p.2.2.2.2.2.2.2.2.2.1 p.2.2.2.2.2.2.2.2.2.2.1 p.2.2.2.2.2.2.2.2.2.2.2
noncomputable def f_laws_sameNode.l0.c : LoopCon := ⟨1000, 6, [2, 3, 4, 5], ⟨[(2, .ptr 1000 0), (3, .ptr 1001 0), (4, .bool false), (5, i0)], [(1000, .box [i0, bN R4, bN R5, bN R7, bN R1]), (1001, .box [i0, bN R4, bN R5, bN R7, bN R1])], 1002⟩, [.bool, iI, iI, (.sl R4), (.sl R5), (.sl R7), (.sl R1), iI, (.sl R4), (.sl R5), (.sl R7), (.sl R1)], [⟨.ret, [4], ⟨[(4, .bool false)], [], 1000⟩, [.bool]⟩, ⟨.exit 0, [2, 3, 4], ⟨[(2, .ptr 1000 0), (3, .ptr 1001 0), (4, .bool false)], [(1000, .box [i0, bN R4, bN R5, bN R7, bN R1]), (1001, .box [i0, bN R4, bN R5, bN R7, bN R1])], 1002⟩, [.bool, iI, (.sl R4), (.sl R5), (.sl R7), (.sl R1), iI, (.sl R4), (.sl R5), (.sl R7), (.sl R1)]⟩], f_laws_sameNode.l0.u N⟩
noncomputable abbrev f_laws_sameNode.l1.u (n : Nat) := fun (p : Bool × Int × Int × tyF × tyH × tyS × List Int × Int × tyF × tyH × tyS × List Int) => f_laws_sameNode.l1 n p.1 p.2.1 p.2.2.1 p.2.2.2.1 p.2.2.2.2.1 p.2.2.2.2.2.1 p.2.2.2.2.2.2.1 p.2.2.2.2.2.2.2.1 p.2.2.2.2.2.2.2.2.1 p.2.2.2.2.2.2.2.2.2.1 p.2.2.2.2.2.2.2.2.2.2.1 p.2.2.2.2.2.2.2.2.2.2.2
noncomputable def f_laws_sameNode.l1.c : LoopCon := ⟨1000, 6, [2, 3, 4, 6], ⟨[(2, .ptr 1000 0), (3, .ptr 1001 0), (4, .bool false), (6, i0)], [(1000, .box [i0, bN R4, bN R5, bN R7, bN R1]), (1001, .box [i0, bN R4, bN R5, bN R7, bN R1])], 1002⟩, [.bool, iI, iI, (.sl R4), (.sl R5), (.sl R7), (.sl R1), iI, (.sl R4), (.sl R5), (.sl R7), (.sl R1)], [⟨.ret, [4], ⟨[(4, .bool false)], [], 1000⟩, [.bool]⟩, ⟨.exit 2, [2, 3, 4], ⟨[(2, .ptr 1000 0), (3, .ptr 1001 0), (4, .bool false)], [(1000, .box [i0, bN R4, bN R5, bN R7, bN R1]), (1001, .box [i0, bN R4, bN R5, bN R7, bN R1])], 1002⟩, [.bool, iI, (.sl R4), (.sl R5), (.sl R7), (.sl R1), iI, (.sl R4), (.sl R5), (.sl R7), (.sl R1)]⟩], f_laws_sameNode.l1.u N⟩
noncomputable abbrev f_laws_sameNode.l2.u (n : Nat) := fun (p : Bool × Int × Int × tyF × tyH × tyS × List Int × Int × tyF × tyH × tyS × List Int) => f_laws_sameNode.l2 n p.1 p.2.1 p.2.2.1 p.2.2.2.1 p.2.2.2.2.1 p.2.2.2.2.2.1 p.2.2.2.2.2.2.1 p.2.2.2.2.2.2.2.1 p.2.2.2.2.2.2.2.2.1 p.2.2.2.2.2.2.2.2.2.1 p.2.2.2.2.2.2.2.2.2.2.1 p.2.2.2.2.2.2.2.2.2.2.2
noncomputable def f_laws_sameNode.l2.c : LoopCon := ⟨1000, 6, [2, 3, 4, 7], ⟨[(2, .ptr 1000 0), (3, .ptr 1001 0), (4, .bool false), (7, i0)], [(1000, .box [i0, bN R4, bN R5, bN R7, bN R1]), (1001, .box [i0, bN R4, bN R5, bN R7, bN R1])], 1002⟩, [.bool, iI, iI, (.sl R4), (.sl R5), (.sl R7), (.sl R1), iI, (.sl R4), (.sl R5), (.sl R7), (.sl R1)], [⟨.ret, [4], ⟨[(4, .bool false)], [], 1000⟩, [.bool]⟩, ⟨.exit 4, [4], ⟨[(4, .bool false)], [], 1000⟩, [.bool]⟩], f_laws_sameNode.l2.u N⟩
noncomputable abbrev K46 : Cons := [(37, C37), (117, C117)]
noncomputable abbrev L46 : List (Nat × Loops) := [(46, [(4, f_laws_sameNode.l0.c), (9, f_laws_sameNode.l1.c), (14, f_laws_sameNode.l2.c)])]
abbrev Q46 : List (Nat × List (Int × Nat) × Nat) := []
noncomputable abbrev X46 : Nat → Ctx := ctxOf tb K46 L46 Q46
theorem f_laws_sameNode.l0.ok : ∀ n p, f_laws_sameNode.l0.u n p = iterD (roundOf fs X46 6 46 4 false f_laws_sameNode.l0.c) n p :=
 iter_of (l := f_laws_sameNode.l0.u) (fun _ => rfl) (fun n p => by kernel_rfl)
theorem f_laws_sameNode.l1.ok : ∀ n p, f_laws_sameNode.l1.u n p = iterD (roundOf fs X46 6 46 9 false f_laws_sameNode.l1.c) n p :=
 iter_of (l := f_laws_sameNode.l1.u) (fun _ => rfl) (fun n p => by kernel_rfl)
theorem f_laws_sameNode.l2.ok : ∀ n p, f_laws_sameNode.l2.u n p = iterD (roundOf fs X46 6 46 14 false f_laws_sameNode.l2.c) n p :=
 iter_of (l := f_laws_sameNode.l2.u) (fun _ => rfl) (fun n p => by kernel_rfl)
theorem E46 : ∀ x, funRun fs X46 6 46 C46 x = C46.fn x := fun x => by kernel_rfl
theorem B46 : ConB Tryz.prog 46 C46 := ConB.make FS MIX TY (cons := K46) (L := L46) (ptrs := Q46) ⟨S37, S117, trivial⟩ trivial ⟨⟨⟨N, fun p => f_laws_sameNode.l0.ok N p⟩, ⟨N, fun p => f_laws_sameNode.l1.ok N p⟩, ⟨N, fun p => f_laws_sameNode.l2.ok N p⟩, trivial⟩, trivial⟩ rfl rfl E46
theorem S46 : ConS Tryz.prog 46 C46 := B46.call rfl
noncomputable def f_spec_DrawNodeNew.l0 : Nat → (List Int) → Int → Int → Option (List Int × Int)
 | 0, _, _, _ => none
 | n + 1, p0, p1, p2 =>
 bif (decide (p2 < (p0.length : Int))) then
 bif (decide (p2 < (4000 : Int))) then
 bif ((decide ((0 : Int) ≤ p2)) && (decide (p2 < (p0.length : Int)))) then
 f_spec_DrawNodeNew.l0 n p0 (bitI .and .i64 (IntKind.wrap .i64 ((IntKind.wrap .i64 ((IntKind.wrap .i64 (p1 * (131 : Int))) + (IntKind.wrap .i64 ((p0.getD p2.toNat 0))))) + (7 : Int))) (1073741823 : Int)) (IntKind.wrap .i64 (p2 + (1 : Int)))
 else none
 else
 some (p0, p1)
 else
 some (p0, p1)
noncomputable def f_spec_DrawNodeNew (x0 : List Int) : Option (Int × Int) :=
 (f_spec_DrawNodeNew.l0 N x0 (IntKind.wrap .i64 ((20404 : Int) + (x0.length : Int))) 0).bind fun r0 =>
 (f_spec_l1Below r0.1 0 r0.2 5).bind fun y1 =>
 (f_spec_l1Below r0.1 y1.2.1 y1.2.2 6).bind fun y2 =>
 some ((IntKind.wrap .i64 (y1.1 - (1 : Int))), y2.1)
noncomputable def C49 : Con := ⟨[(.B, false, [(.sl R0)])], [(false, [iI]), (false, [iI])], [(.sl R0)], [iI, iI], fun (p : List Int) => f_spec_DrawNodeNew p⟩
noncomputable abbrev f_spec_DrawNodeNew.l0.u (n : Nat) := fun (p : List Int × Int × Int) => f_spec_DrawNodeNew.l0 n p.1 p.2.1 p.2.2
noncomputable def f_spec_DrawNodeNew.l0.c : LoopCon := ⟨1081, 5, [0, 3, 4], ⟨[(0, bN R0), (3, i0), (4, i0)], [], 1081⟩, [(.sl R0), iI, iI], [⟨.exit 0, [0, 3], ⟨[(0, bN R0), (3, i0)], [], 1081⟩, [(.sl R0), iI]⟩], f_spec_DrawNodeNew.l0.u N⟩
noncomputable abbrev K49 : Cons := [(106, C106)]
noncomputable abbrev L49 : List (Nat × Loops) := [(104, [(3, f_spec_DrawNodeNew.l0.c)])]
abbrev Q49 : List (Nat × List (Int × Nat) × Nat) := []
noncomputable abbrev X49 : Nat → Ctx := ctxOf tb K49 L49 Q49
theorem f_spec_DrawNodeNew.l0.ok : ∀ n p, f_spec_DrawNodeNew.l0.u n p = iterD (roundOf fs X49 5 104 3 true f_spec_DrawNodeNew.l0.c) n p :=
 iter_of (l := f_spec_DrawNodeNew.l0.u) (fun _ => rfl) (fun n p => by kernel_rfl)
theorem E49 : ∀ x, funRun fs X49 6 49 C49 x = C49.fn x := fun x => by kernel_rfl
theorem B49 : ConB Tryz.prog 49 C49 := ConB.make FS MIX TY (cons := K49) (L := L49) (ptrs := Q49) ⟨S106, trivial⟩ trivial ⟨⟨⟨N, fun p => f_spec_DrawNodeNew.l0.ok N p⟩, trivial⟩, trivial⟩ rfl rfl E49
theorem S49 : ConS Tryz.prog 49 C49 := B49.call rfl
noncomputable def f_impl_HomeNew (x0 : Int) : Option (List Int × Int × List Bool × Bool × Int × Bool × Int × tyW) :=
 (f_impl_from x0 1 4).bind fun y0 =>
 bif (!y0) then
 some ([], 0, [], false, 0, false, 0, [])
 else
 bif (decide ((0 : Int) ≤ x0) && Nat.ble x0.toNat 140737488355328) then
 some ((List.replicate 4 0), -1, (List.replicate x0.toNat false), false, 0, false, 0, [])
 else none
noncomputable def C133 : Con := ⟨[(.B, false, [iI])], [(true, [(.sl R1), iI, (.sl R2), .bool, iI, .bool, iI, (.sl R3)])], [iI], [(.sl R1), iI, (.sl R2), .bool, iI, .bool, iI, (.sl R3)], fun (p : Int) => f_impl_HomeNew p⟩
noncomputable abbrev K133 : Cons := [(140, C140)]
noncomputable abbrev L133 : List (Nat × Loops) := []
abbrev Q133 : List (Nat × List (Int × Nat) × Nat) := []
noncomputable abbrev X133 : Nat → Ctx := ctxOf tb K133 L133 Q133
theorem E133 : ∀ x, funRun fs X133 6 133 C133 x = C133.fn x := fun x => by kernel_rfl
theorem B133 : ConB Tryz.prog 133 C133 := ConB.make FS MIX TY (cons := K133) (L := L133) (ptrs := Q133) ⟨S140, trivial⟩ trivial trivial rfl rfl E133
theorem S133 : ConS Tryz.prog 133 C133 := B133.call rfl
noncomputable def f_impl_NodeNew.l0 : Nat → Int → Bool → Int → Int → Int → tyF → tyH → tyS → (List Int) → tyF → tyH → tyS → (List Int) → Option (Bool × Int × Int × tyF × tyH × tyS × List Int × tyF × tyH × tyS × List Int)
 | 0, _, _, _, _, _, _, _, _, _, _, _, _, _ => none
 | n + 1, p0, p1, p2, p3, p4, p5, p6, p7, p8, p9, p10, p11, p12 =>
 bif (decide (p2 < (6 : Int))) then
 (f_impl_HomeNew p0).bind fun y13 =>
 bif (Nat.blt (p10.length + ([(y13.1, y13.2.1, y13.2.2.1, y13.2.2.2.1, y13.2.2.2.2.1, y13.2.2.2.2.2.1, y13.2.2.2.2.2.2.1, y13.2.2.2.2.2.2.2)] : tyH).length) 1256584717458) then
 (some ((p10 ++ ([(y13.1, y13.2.1, y13.2.2.1, y13.2.2.2.1, y13.2.2.2.2.1, y13.2.2.2.2.2.1, y13.2.2.2.2.2.2.1, y13.2.2.2.2.2.2.2)] : tyH)) : tyH)).bind fun z14 =>
 f_impl_NodeNew.l0 n p0 p1 (IntKind.wrap .i64 (p2 + (1 : Int))) p3 p4 p5 p6 p7 p8 p9 z14 p11 p12
 else none
 else
 some (p1, p3, p4, p5, p6, p7, p8, p9, p10, p11, p12)
noncomputable def f_impl_NodeNew (x0 : Int) (x1 : Int) : Option (Int × tyF × tyH × tyS × List Int × Bool) :=
 (f_impl_isOf x0 x1).bind fun y0 =>
 bif (!y0) then
 some (0, [], [], [], [], false)
 else
 bif (decide ((0 : Int) ≤ x1) && Nat.ble x1.toNat 4398046511104) then
 bif (decide ((0 : Int) ≤ x1) && Nat.ble x1.toNat 17592186044416) then
 (f_impl_NodeNew.l0 N x1 false 0 0 x0 ([] : tyF) ([] : tyH) ([] : tyS) ([] : List Int) (List.replicate 6 (0, [], false)) ([] : tyH) (List.replicate x1.toNat (0, [])) (List.replicate x1.toNat 0)).bind fun r1 =>
 some (r1.2.2.1, r1.2.2.2.2.2.2.2.1, r1.2.2.2.2.2.2.2.2.1, r1.2.2.2.2.2.2.2.2.2.1, r1.2.2.2.2.2.2.2.2.2.2, true)
 else none
 else none
noncomputable def C50 : Con := ⟨[(.B, false, [iI]), (.B, false, [iI])], [(true, [iI, (.sl R4), (.sl R5), (.sl R7), (.sl R1)]), (false, [.bool])], [iI, iI], [iI, (.sl R4), (.sl R5), (.sl R7), (.sl R1), .bool], fun (p : Int × Int) => f_impl_NodeNew p.1 p.2⟩
noncomputable abbrev f_impl_NodeNew.l0.u (n : Nat) := fun (p : Int × Bool × Int × Int × Int × tyF × tyH × tyS × List Int × tyF × tyH × tyS × List Int) => f_impl_NodeNew.l0 n p.1 p.2.1 p.2.2.1 p.2.2.2.1 p.2.2.2.2.1 p.2.2.2.2.2.1 p.2.2.2.2.2.2.1 p.2.2.2.2.2.2.2.1 p.2.2.2.2.2.2.2.2.1 p.2.2.2.2.2.2.2.2.2.1 p.2.2.2.2.2.2.2.2.2.2.1 p.2.2.2.2.2.2.2.2.2.2.2.1 p.2.2.2.2.2.2.2.2.2.2.2.2
noncomputable def f_impl_NodeNew.l0.c : LoopCon := ⟨1000, 6, [1, 4, 5, 6, 19], ⟨[(1, i0), (4, .ptr 1000 0), (5, .bool false), (6, .ptr 1001 0), (19, i0)], [(1000, .box [i0, .ref 1002 [] none, .ref 1003 [] none, .ref 1004 [] none, .ref 1005 [] none]), (1001, .box [i0, .ref 1006 [] none, .ref 1007 [] none, .ref 1008 [] none, .ref 1009 [] none]), (1002, .row R4 []), (1003, .row R5 []), (1004, .row R7 []), (1005, .row R1 []), (1006, .row R4 []), (1007, .row R5 []), (1008, .row R7 []), (1009, .row R1 [])], 1010⟩, [iI, .bool, iI, iI, iI, (.sl R4), (.sl R5), (.sl R7), (.sl R1), (.sl R4), (.sl R5), (.sl R7), (.sl R1)], [⟨.exit 0, [4, 5, 6], ⟨[(4, .ptr 1000 0), (5, .bool false), (6, .ptr 1001 0)], [(1000, .box [i0, .ref 1002 [] none, .ref 1003 [] none, .ref 1004 [] none, .ref 1005 [] none]), (1001, .box [i0, .ref 1006 [] none, .ref 1007 [] none, .ref 1008 [] none, .ref 1009 [] none]), (1002, .row R4 []), (1003, .row R5 []), (1004, .row R7 []), (1005, .row R1 []), (1006, .row R4 []), (1007, .row R5 []), (1008, .row R7 []), (1009, .row R1 [])], 1010⟩, [.bool, iI, iI, (.sl R4), (.sl R5), (.sl R7), (.sl R1), (.sl R4), (.sl R5), (.sl R7), (.sl R1)]⟩], f_impl_NodeNew.l0.u N⟩
noncomputable abbrev K50 : Cons := [(100, C100), (133, C133)]
noncomputable abbrev L50 : List (Nat × Loops) := [(50, [(5, f_impl_NodeNew.l0.c)])]
abbrev Q50 : List (Nat × List (Int × Nat) × Nat) := []
noncomputable abbrev X50 : Nat → Ctx := ctxOf tb K50 L50 Q50
theorem f_impl_NodeNew.l0.ok : ∀ n p, f_impl_NodeNew.l0.u n p = iterD (roundOf fs X50 6 50 5 false f_impl_NodeNew.l0.c) n p :=
 iter_of (l := f_impl_NodeNew.l0.u) (fun _ => rfl) (fun n p => by kernel_rfl)
theorem E50 : ∀ x, funRun fs X50 6 50 C50 x = C50.fn x := fun x => by kernel_rfl
theorem B50 : ConB Tryz.prog 50 C50 := ConB.make FS MIX TY (cons := K50) (L := L50) (ptrs := Q50) ⟨S100, S133, trivial⟩ trivial ⟨⟨⟨N, fun p => f_impl_NodeNew.l0.ok N p⟩, trivial⟩, trivial⟩ rfl rfl E50
theorem S50 : ConS Tryz.prog 50 C50 := B50.call rfl
end
end Go.Abs
