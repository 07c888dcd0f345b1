import Derived.Test.YtdhjooflkiagaaaGreatProg
import Derived.Test.YtdhjooflkiagaaaGreatAbtE
import Derived.KernelRfl
import Derived.Test.YtdhjooflkiagaaaGreatMFnTrutha
namespace Go.Abs
open Go.Proofs
set_option linter.unusedVariables false
set_option maxRecDepth 100000
noncomputable section
noncomputable def f_spec_l4DrawRight.l0 : Nat → Int → Int → (List Int) → Int → Int → Int → Bool → Int → Bool → Int → Int → Bool → Int → Bool → Int → (List Int) → (List Bool) → tyW → (List Int) → (List Bool) → tyW → Option (List Int × Int × Int × Int × Bool × Int × Bool × Int × Int × Bool × Int × Bool × Int × List Int × List Bool × tyW × List Int × List Bool × tyW)
 | 0, _, _, _, _, _, _, _, _, _, _, _, _, _, _, _, _, _, _, _, _, _ => none
 | n + 1, p0, p1, p2, p3, p4, p5, p6, p7, p8, p9, p10, p11, p12, p13, p14, p15, p16, p17, p18, p19, p20 =>
 bif (decide (p1 < p0)) then
 (f_spec_l1PickInt p2 p3 p4 ([1, 2, 2, 5, 7] : List Int)).bind fun y21 =>
 bif (decide (y21.1 = (7 : Int))) then
 (f_spec_l1DrawList p2 y21.2.1 y21.2.2).bind fun y22 =>
 (f_spec_l1Below p2 y22.2.1 y22.2.2 3).bind fun y23 =>
 bif (decide (y21.1 = (7 : Int))) then
 bif (decide ((0 : Int) ≤ p10)) then
 (f_spec_HomeHear p18 p10 p19 p11 p12 p13 p14 p20 3 0 p10 y21.1 0 false y22.1).bind fun y24 =>
 f_spec_l4DrawRight.l0 n p0 (IntKind.wrap .i64 (p1 + (1 : Int))) p2 y23.2.1 y23.2.2 p5 p6 p7 p8 p9 y24.2.1 y24.2.2.2.1 y24.2.2.2.2.1 y24.2.2.2.2.2.1 y24.2.2.2.2.2.2.1 p15 p16 p17 y24.1 y24.2.2.1 y24.2.2.2.2.2.2.2.1
 else
 (f_spec_HomeHear p18 p10 p19 p11 p12 p13 p14 p20 3 0 y23.1 y21.1 0 false y22.1).bind fun y25 =>
 f_spec_l4DrawRight.l0 n p0 (IntKind.wrap .i64 (p1 + (1 : Int))) p2 y23.2.1 y23.2.2 p5 p6 p7 p8 p9 y25.2.1 y25.2.2.2.1 y25.2.2.2.2.1 y25.2.2.2.2.2.1 y25.2.2.2.2.2.2.1 p15 p16 p17 y25.1 y25.2.2.1 y25.2.2.2.2.2.2.2.1
 else
 (f_spec_HomeHear p18 p10 p19 p11 p12 p13 p14 p20 3 0 y23.1 y21.1 0 false y22.1).bind fun y26 =>
 f_spec_l4DrawRight.l0 n p0 (IntKind.wrap .i64 (p1 + (1 : Int))) p2 y23.2.1 y23.2.2 p5 p6 p7 p8 p9 y26.2.1 y26.2.2.2.1 y26.2.2.2.2.1 y26.2.2.2.2.2.1 y26.2.2.2.2.2.2.1 p15 p16 p17 y26.1 y26.2.2.1 y26.2.2.2.2.2.2.2.1
 else
 (f_spec_l1Below p2 y21.2.1 y21.2.2 3).bind fun y27 =>
 bif (decide (y21.1 = (7 : Int))) then
 bif (decide ((0 : Int) ≤ p10)) then
 (f_spec_HomeHear p18 p10 p19 p11 p12 p13 p14 p20 3 0 p10 y21.1 0 false []).bind fun y28 =>
 f_spec_l4DrawRight.l0 n p0 (IntKind.wrap .i64 (p1 + (1 : Int))) p2 y27.2.1 y27.2.2 p5 p6 p7 p8 p9 y28.2.1 y28.2.2.2.1 y28.2.2.2.2.1 y28.2.2.2.2.2.1 y28.2.2.2.2.2.2.1 p15 p16 p17 y28.1 y28.2.2.1 y28.2.2.2.2.2.2.2.1
 else
 (f_spec_HomeHear p18 p10 p19 p11 p12 p13 p14 p20 3 0 y27.1 y21.1 0 false []).bind fun y29 =>
 f_spec_l4DrawRight.l0 n p0 (IntKind.wrap .i64 (p1 + (1 : Int))) p2 y27.2.1 y27.2.2 p5 p6 p7 p8 p9 y29.2.1 y29.2.2.2.1 y29.2.2.2.2.1 y29.2.2.2.2.2.1 y29.2.2.2.2.2.2.1 p15 p16 p17 y29.1 y29.2.2.1 y29.2.2.2.2.2.2.2.1
 else
 (f_spec_HomeHear p18 p10 p19 p11 p12 p13 p14 p20 3 0 y27.1 y21.1 0 false []).bind fun y30 =>
 f_spec_l4DrawRight.l0 n p0 (IntKind.wrap .i64 (p1 + (1 : Int))) p2 y27.2.1 y27.2.2 p5 p6 p7 p8 p9 y30.2.1 y30.2.2.2.1 y30.2.2.2.2.1 y30.2.2.2.2.2.1 y30.2.2.2.2.2.2.1 p15 p16 p17 y30.1 y30.2.2.1 y30.2.2.2.2.2.2.2.1
 else
 some (p2, p3, p4, p5, p6, p7, p8, p9, p10, p11, p12, p13, p14, p15, p16, p17, p18, p19, p20)
noncomputable def f_spec_l4DrawRight (x0 : List Int) (x1 : Int) (x2 : Int) : Option (List Int × Int × List Bool × Bool × Int × Bool × Int × tyW × Int × Int) :=
 (f_spec_HomeNew 3).bind fun y0 =>
 (f_spec_l1Below x0 x1 x2 8).bind fun y1 =>
 (f_spec_l4DrawRight.l0 N y1.1 0 x0 y1.2.1 y1.2.2 0 false 0 false 0 y0.2.1 y0.2.2.2.1 y0.2.2.2.2.1 y0.2.2.2.2.2.1 y0.2.2.2.2.2.2.1 ([] : List Int) ([] : List Bool) ([] : tyW) y0.1 y0.2.2.1 y0.2.2.2.2.2.2.2).bind fun r2 =>
 some (r2.2.2.2.2.2.2.2.2.2.2.2.2.2.2.2.2.1, r2.2.2.2.2.2.2.2.2.1, r2.2.2.2.2.2.2.2.2.2.2.2.2.2.2.2.2.2.1, r2.2.2.2.2.2.2.2.2.2.1, r2.2.2.2.2.2.2.2.2.2.2.1, r2.2.2.2.2.2.2.2.2.2.2.2.1, r2.2.2.2.2.2.2.2.2.2.2.2.2.1, r2.2.2.2.2.2.2.2.2.2.2.2.2.2.2.2.2.2.2, r2.2.1, r2.2.2.1)
noncomputable def C208 : Con := ⟨[(.P [false, true, true], false, [(.sl R0), iI, iI])], [(true, [(.sl R1), iI, (.sl R2), .bool, iI, .bool, iI, (.sl R3)])], [(.sl R0), iI, iI], [(.sl R1), iI, (.sl R2), .bool, iI, .bool, iI, (.sl R3), iI, iI], fun (p : List Int × Int × Int) => f_spec_l4DrawRight p.1 p.2.1 p.2.2⟩
noncomputable abbrev f_spec_l4DrawRight.l0.u (n : Nat) := fun (p : Int × Int × List Int × Int × Int × Int × Bool × Int × Bool × Int × Int × Bool × Int × Bool × Int × List Int × List Bool × tyW × List Int × List Bool × tyW) => f_spec_l4DrawRight.l0 n p.1 p.2.1 p.2.2.1 p.2.2.2.1 p.2.2.2.2.1 p.2.2.2.2.2.1 p.2.2.2.2.2.2.1 p.2.2.2.2.2.2.2.1 p.2.2.2.2.2.2.2.2.1 p.2.2.2.2.2.2.2.2.2.1 p.2.2.2.2.2.2.2.2.2.2.1 p.2.2.2.2.2.2.2.2.2.2.2.1 p.2.2.2.2.2.2.2.2.2.2.2.2.1 p.2.2.2.2.2.2.2.2.2.2.2.2.2.1 p.2.2.2.2.2.2.2.2.2.2.2.2.2.2.1 p.2.2.2.2.2.2.2.2.2.2.2.2.2.2.2.1 p.2.2.2.2.2.2.2.2.2.2.2.2.2.2.2.2.1 p.2.2.2.2.2.2.2.2.2.2.2.2.2.2.2.2.2.1 p.2.2.2.2.2.2.2.2.2.2.2.2.2.2.2.2.2.2.1 p.2.2.2.2.2.2.2.2.2.2.2.2.2.2.2.2.2.2.2.1 p.2.2.2.2.2.2.2.2.2.2.2.2.2.2.2.2.2.2.2.2
noncomputable def f_spec_l4DrawRight.l0.c : LoopCon := ⟨1000, 6, [0, 2, 3, 4, 5], ⟨[(0, .ptr 500 0), (2, .ptr 1000 0), (3, .ptr 1001 0), (4, i0), (5, i0)], [(500, .box [.bor (some 0) R0 [], i0, i0]), (1000, .box [.ref 1002 [] none, i0, .ref 1003 [] none, .bool false, i0, .bool false, i0, .ref 1004 [] none]), (1001, .box [.ref 1005 [] none, i0, .ref 1006 [] none, .bool false, i0, .bool false, i0, .ref 1007 [] none]), (1002, .row R1 []), (1003, .row R2 []), (1004, .row R3 []), (1005, .row R1 []), (1006, .row R2 []), (1007, .row R3 [])], 1008⟩, [iI, iI, (.sl R0), iI, iI, iI, .bool, iI, .bool, iI, iI, .bool, iI, .bool, iI, (.sl R1), (.sl R2), (.sl R3), (.sl R1), (.sl R2), (.sl R3)], [⟨.exit 0, [2, 3], ⟨[(2, .ptr 1000 0), (3, .ptr 1001 0)], [(500, .box [.bor (some 0) R0 [], i0, i0]), (1000, .box [.ref 1002 [] none, i0, .ref 1003 [] none, .bool false, i0, .bool false, i0, .ref 1004 [] none]), (1001, .box [.ref 1005 [] none, i0, .ref 1006 [] none, .bool false, i0, .bool false, i0, .ref 1007 [] none]), (1002, .row R1 []), (1003, .row R2 []), (1004, .row R3 []), (1005, .row R1 []), (1006, .row R2 []), (1007, .row R3 [])], 1008⟩, [(.sl R0), iI, iI, iI, .bool, iI, .bool, iI, iI, .bool, iI, .bool, iI, (.sl R1), (.sl R2), (.sl R3), (.sl R1), (.sl R2), (.sl R3)]⟩], f_spec_l4DrawRight.l0.u N⟩
noncomputable abbrev K208 : Cons := [(106, C106), (114, C114), (134, C134), (176, C176), (209, C209)]
noncomputable abbrev L208 : List (Nat × Loops) := [(208, [(4, f_spec_l4DrawRight.l0.c)])]
abbrev Q208 : List (Nat × List (Int × Nat) × Nat) := []
noncomputable abbrev X208 : Nat → Ctx := ctxOf tb K208 L208 Q208
theorem f_spec_l4DrawRight.l0.ok : ∀ n p, f_spec_l4DrawRight.l0.u n p = iterD (roundOf fs X208 6 208 4 false f_spec_l4DrawRight.l0.c) n p :=
 iter_of (l := f_spec_l4DrawRight.l0.u) (fun _ => rfl) (fun n p => by kernel_rfl)
theorem E208 : ∀ x, funG fs X208 6 208 C208 x = C208.fn x := fun x => by kernel_rfl
theorem B208 : ConG Tryz.prog 208 C208 := ConG.make FS MIX TY (cons := K208) (L := L208) (ptrs := Q208) ⟨S106, S114, S134, S176, S209, trivial⟩ trivial ⟨⟨⟨N, fun p => f_spec_l4DrawRight.l0.ok N p⟩, trivial⟩, trivial⟩ rfl (by kernel_rfl) E208
theorem S208 : ConS Tryz.prog 208 C208 := B208.call (by kernel_rfl)
noncomputable def f_spec_l4Draw.l0 : Nat → (List Int) → Int → Int → Int → Bool → Int → Bool → Int → Int → Bool → Int → Bool → Int → (List Int) → (List Bool) → tyW → (List Int) → (List Bool) → tyW → Option (List Int × Int × Int × Int × Bool × Int × Bool × Int × Int × Bool × Int × Bool × Int × List Int × List Bool × tyW × List Int × List Bool × tyW)
 | 0, _, _, _, _, _, _, _, _, _, _, _, _, _, _, _, _, _, _, _ => none
 | n + 1, p0, p1, p2, p3, p4, p5, p6, p7, p8, p9, p10, p11, p12, p13, p14, p15, p16, p17, p18 =>
 (f_spec_l1Below p0 p1 p2 2).bind fun y19 =>
 bif (decide ((p18.length : Int) < (IntKind.wrap .i64 ((12 : Int) + y19.1)))) then
 bif (Nat.blt (p18.length + ([(0, false)] : tyW).length) 8796093022208) then
 (some ((p18 ++ ([(0, false)] : tyW)) : tyW)).bind fun z20 =>
 f_spec_l4Draw.l0 n p0 y19.2.1 y19.2.2 p3 p4 p5 p6 p7 p8 p9 p10 p11 p12 p13 p14 p15 p16 p17 z20
 else none
 else
 some (p0, y19.2.1, y19.2.2, p3, p4, p5, p6, p7, p8, p9, p10, p11, p12, p13, p14, p15, p16, p17, p18)
noncomputable def f_spec_l4Draw (x0 : List Int) (x1 : Int) (x2 : Int) : Option (List Int × Int × List Bool × Bool × Int × Bool × Int × tyW × Int × Int) :=
 (f_spec_l4DrawRight x0 x1 x2).bind fun y0 =>
 (f_spec_l1Below x0 y0.2.2.2.2.2.2.2.2.1 y0.2.2.2.2.2.2.2.2.2 15).bind fun y1 =>
 bif (decide (y1.1 = (0 : Int))) then
 (f_spec_l1PickInt x0 y1.2.1 y1.2.2 ([-2, -1, 2, 3] : List Int)).bind fun y2 =>
 some (y0.1, y2.1, y0.2.2.1, y0.2.2.2.1, y0.2.2.2.2.1, y0.2.2.2.2.2.1, y0.2.2.2.2.2.2.1, y0.2.2.2.2.2.2.2.1, y2.2.1, y2.2.2)
 else
 bif (decide (y1.1 = (1 : Int))) then
 (f_spec_l1PickInt x0 y1.2.1 y1.2.2 ([-1, 0, 1, 4] : List Int)).bind fun y3 =>
 some (y0.1, y0.2.1, y0.2.2.1, y0.2.2.2.1, y0.2.2.2.2.1, y0.2.2.2.2.2.1, y3.1, y0.2.2.2.2.2.2.2.1, y3.2.1, y3.2.2)
 else
 bif (decide (y1.1 = (2 : Int))) then
 bif (Nat.blt (y0.2.2.1.length + ([true] : List Bool).length) 140737488355328) then
 (some ((y0.2.2.1 ++ ([true] : List Bool)) : List Bool)).bind fun z4 =>
 some (y0.1, y0.2.1, z4, y0.2.2.2.1, y0.2.2.2.2.1, y0.2.2.2.2.2.1, y0.2.2.2.2.2.2.1, y0.2.2.2.2.2.2.2.1, y1.2.1, y1.2.2)
 else none
 else
 bif (decide (y1.1 = (3 : Int))) then
 (f_spec_l1Below x0 y1.2.1 y1.2.2 5).bind fun y5 =>
 bif (Nat.blt (y0.2.2.2.2.2.2.2.1.length + ([(y5.1, false)] : tyW).length) 8796093022208) then
 (some ((y0.2.2.2.2.2.2.2.1 ++ ([(y5.1, false)] : tyW)) : tyW)).bind fun z6 =>
 some (y0.1, y0.2.1, y0.2.2.1, y0.2.2.2.1, y0.2.2.2.2.1, y0.2.2.2.2.2.1, y0.2.2.2.2.2.2.1, z6, y5.2.1, y5.2.2)
 else none
 else
 bif (decide (y1.1 = (4 : Int))) then
 some (y0.1, y0.2.1, y0.2.2.1, (!y0.2.2.2.1), y0.2.2.2.2.1, y0.2.2.2.2.2.1, y0.2.2.2.2.2.2.1, y0.2.2.2.2.2.2.2.1, y1.2.1, y1.2.2)
 else
 bif (decide (y1.1 = (5 : Int))) then
 (f_spec_l4Draw.l0 N x0 y1.2.1 y1.2.2 0 false 0 false 0 y0.2.1 y0.2.2.2.1 y0.2.2.2.2.1 y0.2.2.2.2.2.1 y0.2.2.2.2.2.2.1 ([] : List Int) ([] : List Bool) ([] : tyW) y0.1 y0.2.2.1 y0.2.2.2.2.2.2.2.1).bind fun r7 =>
 some (r7.2.2.2.2.2.2.2.2.2.2.2.2.2.2.2.2.1, r7.2.2.2.2.2.2.2.2.1, r7.2.2.2.2.2.2.2.2.2.2.2.2.2.2.2.2.2.1, r7.2.2.2.2.2.2.2.2.2.1, r7.2.2.2.2.2.2.2.2.2.2.1, r7.2.2.2.2.2.2.2.2.2.2.2.1, r7.2.2.2.2.2.2.2.2.2.2.2.2.1, r7.2.2.2.2.2.2.2.2.2.2.2.2.2.2.2.2.2.2, r7.2.1, r7.2.2.1)
 else
 some (y0.1, y0.2.1, y0.2.2.1, y0.2.2.2.1, y0.2.2.2.2.1, y0.2.2.2.2.2.1, y0.2.2.2.2.2.2.1, y0.2.2.2.2.2.2.2.1, y1.2.1, y1.2.2)
noncomputable def C174 : Con := ⟨[(.P [false, true, true], false, [(.sl R0), iI, iI])], [(true, [(.sl R1), iI, (.sl R2), .bool, iI, .bool, iI, (.sl R3)])], [(.sl R0), iI, iI], [(.sl R1), iI, (.sl R2), .bool, iI, .bool, iI, (.sl R3), iI, iI], fun (p : List Int × Int × Int) => f_spec_l4Draw p.1 p.2.1 p.2.2⟩
noncomputable abbrev f_spec_l4Draw.l0.u (n : Nat) := fun (p : List Int × Int × Int × Int × Bool × Int × Bool × Int × Int × Bool × Int × Bool × Int × List Int × List Bool × tyW × List Int × List Bool × tyW) => f_spec_l4Draw.l0 n p.1 p.2.1 p.2.2.1 p.2.2.2.1 p.2.2.2.2.1 p.2.2.2.2.2.1 p.2.2.2.2.2.2.1 p.2.2.2.2.2.2.2.1 p.2.2.2.2.2.2.2.2.1 p.2.2.2.2.2.2.2.2.2.1 p.2.2.2.2.2.2.2.2.2.2.1 p.2.2.2.2.2.2.2.2.2.2.2.1 p.2.2.2.2.2.2.2.2.2.2.2.2.1 p.2.2.2.2.2.2.2.2.2.2.2.2.2.1 p.2.2.2.2.2.2.2.2.2.2.2.2.2.2.1 p.2.2.2.2.2.2.2.2.2.2.2.2.2.2.2.1 p.2.2.2.2.2.2.2.2.2.2.2.2.2.2.2.2.1 p.2.2.2.2.2.2.2.2.2.2.2.2.2.2.2.2.2.1 p.2.2.2.2.2.2.2.2.2.2.2.2.2.2.2.2.2.2
noncomputable def f_spec_l4Draw.l0.c : LoopCon := ⟨1000, 6, [0, 2, 3], ⟨[(0, .ptr 500 0), (2, .ptr 1000 0), (3, .ptr 1001 0)], [(500, .box [.bor (some 0) R0 [], i0, i0]), (1000, .box [.ref 1002 [] none, i0, .ref 1003 [] none, .bool false, i0, .bool false, i0, .ref 1004 [] none]), (1001, .box [.ref 1005 [] none, i0, .ref 1006 [] none, .bool false, i0, .bool false, i0, .ref 1007 [] none]), (1002, .row R1 []), (1003, .row R2 []), (1004, .row R3 []), (1005, .row R1 []), (1006, .row R2 []), (1007, .row R3 [])], 1008⟩, [(.sl R0), iI, iI, iI, .bool, iI, .bool, iI, iI, .bool, iI, .bool, iI, (.sl R1), (.sl R2), (.sl R3), (.sl R1), (.sl R2), (.sl R3)], [⟨.exit 1, [2, 3], ⟨[(2, .ptr 1000 0), (3, .ptr 1001 0)], [(500, .box [.bor (some 0) R0 [], i0, i0]), (1000, .box [.ref 1002 [] none, i0, .ref 1003 [] none, .bool false, i0, .bool false, i0, .ref 1004 [] none]), (1001, .box [.ref 1005 [] none, i0, .ref 1006 [] none, .bool false, i0, .bool false, i0, .ref 1007 [] none]), (1002, .row R1 []), (1003, .row R2 []), (1004, .row R3 []), (1005, .row R1 []), (1006, .row R2 []), (1007, .row R3 [])], 1008⟩, [(.sl R0), iI, iI, iI, .bool, iI, .bool, iI, iI, .bool, iI, .bool, iI, (.sl R1), (.sl R2), (.sl R3), (.sl R1), (.sl R2), (.sl R3)]⟩], f_spec_l4Draw.l0.u N⟩
noncomputable abbrev K174 : Cons := [(106, C106), (176, C176), (208, C208)]
noncomputable abbrev L174 : List (Nat × Loops) := [(174, [(14, f_spec_l4Draw.l0.c)])]
abbrev Q174 : List (Nat × List (Int × Nat) × Nat) := []
noncomputable abbrev X174 : Nat → Ctx := ctxOf tb K174 L174 Q174
theorem f_spec_l4Draw.l0.ok : ∀ n p, f_spec_l4Draw.l0.u n p = iterD (roundOf fs X174 6 174 14 false f_spec_l4Draw.l0.c) n p :=
 iter_of (l := f_spec_l4Draw.l0.u) (fun _ => rfl) (fun n p => by kernel_rfl)
theorem E174 : ∀ x, funG fs X174 6 174 C174 x = C174.fn x := fun x => by kernel_rfl
theorem B174 : ConG Tryz.prog 174 C174 := ConG.make FS MIX TY (cons := K174) (L := L174) (ptrs := Q174) ⟨S106, S176, S208, trivial⟩ trivial ⟨⟨⟨N, fun p => f_spec_l4Draw.l0.ok N p⟩, trivial⟩, trivial⟩ rfl (by kernel_rfl) E174
theorem S174 : ConS Tryz.prog 174 C174 := B174.call (by kernel_rfl)
noncomputable def f_spec_l6Draw (x0 : List Int) (x1 : Int) (x2 : Int) : Option (Int × tyN × tyP × Int × Int) :=
 (f_spec_l6DrawRight x0 x1 x2).bind fun y0 =>
 (f_spec_l1Below x0 y0.2.2.2.1 y0.2.2.2.2 18).bind fun y1 =>
 bif (decide (y1.1 = (0 : Int))) then
 (f_spec_l1Below x0 y1.2.1 y1.2.2 6).bind fun y2 =>
 some (y2.1, y0.2.1, y0.2.2.1, y2.2.1, y2.2.2)
 else
 bif (decide (y1.1 = (1 : Int))) then
 bif (decide ((0 : Int) < (y0.2.1.length : Int))) then
 (f_spec_l3Draw x0 y1.2.1 y1.2.2).bind fun y3 =>
 bif (decide ((0 : Int) < (((y0.2.1.getD 0 (0, [], [], [], [])).2.1).length : Int))) then
 (some ((y0.2.1.set 0 ((y0.2.1.getD 0 (0, [], [], [], [])).1, (((y0.2.1.getD 0 (0, [], [], [], [])).2.1).set 0 (y3.1, y3.2.1, y3.2.2.1)), (y0.2.1.getD 0 (0, [], [], [], [])).2.2.1, (y0.2.1.getD 0 (0, [], [], [], [])).2.2.2.1, (y0.2.1.getD 0 (0, [], [], [], [])).2.2.2.2)) : tyN)).bind fun z4 =>
 some (y0.1, z4, y0.2.2.1, y3.2.2.2.1, y3.2.2.2.2)
 else none
 else none
 else
 bif (decide (y1.1 = (2 : Int))) then
 (f_spec_l1Below x0 y1.2.1 y1.2.2 4).bind fun y5 =>
 (f_spec_l1Draw x0 y5.2.1 y5.2.2).bind fun y6 =>
 bif (Nat.blt (y0.2.2.1.length + ([(y5.1, 0, false, 0, y6.1, y6.2.1, y6.2.2.1, y6.2.2.2.1)] : tyP).length) 1759218604441) then
 (some ((y0.2.2.1 ++ ([(y5.1, 0, false, 0, y6.1, y6.2.1, y6.2.2.1, y6.2.2.2.1)] : tyP)) : tyP)).bind fun z7 =>
 some (y0.1, y0.2.1, z7, y6.2.2.2.2.1, y6.2.2.2.2.2)
 else none
 else
 bif (decide (y1.1 = (3 : Int))) then
 bif (decide ((0 : Int) < (y0.2.1.length : Int))) then
 (f_spec_l4Draw x0 y1.2.1 y1.2.2).bind fun y8 =>
 bif (decide ((0 : Int) < (((y0.2.1.getD 0 (0, [], [], [], [])).2.2.1).length : Int))) then
 (some ((y0.2.1.set 0 ((y0.2.1.getD 0 (0, [], [], [], [])).1, (y0.2.1.getD 0 (0, [], [], [], [])).2.1, (((y0.2.1.getD 0 (0, [], [], [], [])).2.2.1).set 0 (y8.1, y8.2.1, y8.2.2.1, y8.2.2.2.1, y8.2.2.2.2.1, y8.2.2.2.2.2.1, y8.2.2.2.2.2.2.1, y8.2.2.2.2.2.2.2.1)), (y0.2.1.getD 0 (0, [], [], [], [])).2.2.2.1, (y0.2.1.getD 0 (0, [], [], [], [])).2.2.2.2)) : tyN)).bind fun z9 =>
 some (y0.1, z9, y0.2.2.1, y8.2.2.2.2.2.2.2.2.1, y8.2.2.2.2.2.2.2.2.2)
 else none
 else none
 else
 bif (decide (y1.1 = (4 : Int))) then
 bif (decide ((0 : Int) < (y0.2.1.length : Int))) then
 bif (decide ((0 : Int) < (((y0.2.1.getD 0 (0, [], [], [], [])).2.2.2.2).length : Int))) then
 (some ((y0.2.1.set 0 ((y0.2.1.getD 0 (0, [], [], [], [])).1, (y0.2.1.getD 0 (0, [], [], [], [])).2.1, (y0.2.1.getD 0 (0, [], [], [], [])).2.2.1, (y0.2.1.getD 0 (0, [], [], [], [])).2.2.2.1, (((y0.2.1.getD 0 (0, [], [], [], [])).2.2.2.2).set 0 9))) : tyN)).bind fun z10 =>
 some (y0.1, z10, y0.2.2.1, y1.2.1, y1.2.2)
 else none
 else none
 else
 some (y0.1, y0.2.1, y0.2.2.1, y1.2.1, y1.2.2)
noncomputable def C105 : Con := ⟨[(.P [false, true, true], false, [(.sl R0), iI, iI])], [(true, [iI, (.sl R8), (.sl R9)])], [(.sl R0), iI, iI], [iI, (.sl R8), (.sl R9), iI, iI], fun (p : List Int × Int × Int) => f_spec_l6Draw p.1 p.2.1 p.2.2⟩
noncomputable abbrev K105 : Cons := [(106, C106), (108, C108), (172, C172), (173, C173), (174, C174)]
noncomputable abbrev L105 : List (Nat × Loops) := []
abbrev Q105 : List (Nat × List (Int × Nat) × Nat) := []
noncomputable abbrev X105 : Nat → Ctx := ctxOf tb K105 L105 Q105
theorem E105 : ∀ x, funG fs X105 6 105 C105 x = C105.fn x := fun x => by kernel_rfl
theorem B105 : ConG Tryz.prog 105 C105 := ConG.make FS MIX TY (cons := K105) (L := L105) (ptrs := Q105) ⟨S106, S108, S172, S173, S174, trivial⟩ trivial trivial rfl (by kernel_rfl) E105
theorem S105 : ConS Tryz.prog 105 C105 := B105.call (by kernel_rfl)
noncomputable def f_spec_DrawTruth.l0 : Nat → (List Int) → Int → Int → Int → Option (List Int × Int × Int)
 | 0, _, _, _, _ => none
 | n + 1, p0, p1, p2, p3 =>
 bif (decide (p2 < (p0.length : Int))) then
 bif (decide (p2 < (4000 : Int))) then
 bif ((decide ((0 : Int) ≤ p2)) && (decide (p2 < (p0.length : Int)))) then
 f_spec_DrawTruth.l0 n p0 (bitI .and .i64 (IntKind.wrap .i64 ((IntKind.wrap .i64 ((IntKind.wrap .i64 (p1 * (131 : Int))) + (IntKind.wrap .i64 ((p0.getD p2.toNat 0))))) + (7 : Int))) (1073741823 : Int)) (IntKind.wrap .i64 (p2 + (1 : Int))) p3
 else none
 else
 some (p0, p1, p3)
 else
 some (p0, p1, p3)
noncomputable def f_spec_DrawTruth (x0 : List Int) : Option (Int × tyN × tyP × Int) :=
 (f_spec_DrawTruth.l0 N x0 (IntKind.wrap .i64 ((20404 : Int) + (x0.length : Int))) 0 0).bind fun r0 =>
 (f_spec_l6Draw r0.1 0 r0.2.1).bind fun y1 =>
 (f_spec_l1Below r0.1 y1.2.2.2.1 y1.2.2.2.2 8).bind fun y2 =>
 some (y1.1, y1.2.1, y1.2.2.1, (IntKind.wrap .i64 (y2.1 - (1 : Int))))
noncomputable def C32 : Con := ⟨[(.B, false, [(.sl R0)])], [(true, [iI, (.sl R8), (.sl R9)]), (false, [iI])], [(.sl R0)], [iI, (.sl R8), (.sl R9), iI], fun (p : List Int) => f_spec_DrawTruth p⟩
noncomputable abbrev f_spec_DrawTruth.l0.u (n : Nat) := fun (p : List Int × Int × Int × Int) => f_spec_DrawTruth.l0 n p.1 p.2.1 p.2.2.1 p.2.2.2
noncomputable def f_spec_DrawTruth.l0.c : LoopCon := ⟨1081, 5, [0, 3, 4], ⟨[(0, bN R0), (3, i0), (4, i0)], [(1001, .box [i0, .nil (some R8), .nil (some R9)])], 1081⟩, [(.sl R0), iI, iI, iI], [⟨.exit 0, [0, 3], ⟨[(0, bN R0), (3, i0)], [(1001, .box [i0, .nil (some R8), .nil (some R9)])], 1081⟩, [(.sl R0), iI, iI]⟩], f_spec_DrawTruth.l0.u N⟩
noncomputable abbrev K32 : Cons := [(105, C105), (106, C106)]
noncomputable abbrev L32 : List (Nat × Loops) := [(104, [(3, f_spec_DrawTruth.l0.c)])]
abbrev Q32 : List (Nat × List (Int × Nat) × Nat) := []
noncomputable abbrev X32 : Nat → Ctx := ctxOf tb K32 L32 Q32
theorem f_spec_DrawTruth.l0.ok : ∀ n p, f_spec_DrawTruth.l0.u n p = iterD (roundOf fs X32 5 104 3 true f_spec_DrawTruth.l0.c) n p :=
 iter_of (l := f_spec_DrawTruth.l0.u) (fun _ => rfl) (fun n p => by kernel_rfl)
theorem E32 : ∀ x, funRun fs X32 6 32 C32 x = C32.fn x := fun x => by kernel_rfl
theorem B32 : ConB Tryz.prog 32 C32 := ConB.make FS MIX TY (cons := K32) (L := L32) (ptrs := Q32) ⟨S105, S106, trivial⟩ trivial ⟨⟨⟨N, fun p => f_spec_DrawTruth.l0.ok N p⟩, trivial⟩, trivial⟩ rfl rfl E32
theorem S32 : ConS Tryz.prog 32 C32 := B32.call rfl
noncomputable def f_impl_from (x0 : Int) (x1 : Int) (x2 : Int) : Option (Bool) :=
 bif (decide (x1 ≤ x0)) then
 some (decide (x0 ≤ x2))
 else
 some false
noncomputable def C140 : Con := ⟨[(.B, false, [iI]), (.B, false, [iI]), (.B, false, [iI])], [(false, [.bool])], [iI, iI, iI], [.bool], fun (p : Int × Int × Int) => f_impl_from p.1 p.2.1 p.2.2⟩
noncomputable abbrev K140 : Cons := []
noncomputable abbrev L140 : List (Nat × Loops) := []
abbrev Q140 : List (Nat × List (Int × Nat) × Nat) := []
noncomputable abbrev X140 : Nat → Ctx := ctxOf tb K140 L140 Q140
theorem E140 : ∀ x, funRun fs X140 6 140 C140 x = C140.fn x := fun x => by kernel_rfl
theorem B140 : ConB Tryz.prog 140 C140 := ConB.make FS MIX TY (cons := K140) (L := L140) (ptrs := Q140) trivial trivial trivial rfl rfl E140
theorem S140 : ConS Tryz.prog 140 C140 := B140.call rfl
noncomputable def f_impl_isOf (x0 : Int) (x1 : Int) : Option (Bool) :=
 (f_impl_from x1 1 4).bind fun y0 =>
 bif y0 then
 (f_impl_from x0 0 (IntKind.wrap .i64 (x1 - (1 : Int)))).bind fun y1 =>
 some y1
 else
 some false
noncomputable def C100 : Con := ⟨[(.B, false, [iI]), (.B, false, [iI])], [(false, [.bool])], [iI, iI], [.bool], fun (p : Int × Int) => f_impl_isOf p.1 p.2⟩
noncomputable abbrev K100 : Cons := [(140, C140)]
noncomputable abbrev L100 : List (Nat × Loops) := []
abbrev Q100 : List (Nat × List (Int × Nat) × Nat) := []
noncomputable abbrev X100 : Nat → Ctx := ctxOf tb K100 L100 Q100
theorem E100 : ∀ x, funRun fs X100 6 100 C100 x = C100.fn x := fun x => by kernel_rfl
theorem B100 : ConB Tryz.prog 100 C100 := ConB.make FS MIX TY (cons := K100) (L := L100) (ptrs := Q100) ⟨S140, trivial⟩ trivial trivial rfl rfl E100
theorem S100 : ConS Tryz.prog 100 C100 := B100.call rfl
noncomputable def f_impl_isWord (x0 : Int) : Option (Bool) :=
 (f_impl_from x0 0 65535).bind fun y0 =>
 some y0
noncomputable def C212 : Con := ⟨[(.B, false, [iI])], [(false, [.bool])], [iI], [.bool], fun (p : Int) => f_impl_isWord p⟩
noncomputable abbrev K212 : Cons := [(140, C140)]
noncomputable abbrev L212 : List (Nat × Loops) := []
abbrev Q212 : List (Nat × List (Int × Nat) × Nat) := []
noncomputable abbrev X212 : Nat → Ctx := ctxOf tb K212 L212 Q212
theorem E212 : ∀ x, funRun fs X212 6 212 C212 x = C212.fn x := fun x => by kernel_rfl
theorem B212 : ConB Tryz.prog 212 C212 := ConB.make FS MIX TY (cons := K212) (L := L212) (ptrs := Q212) ⟨S140, trivial⟩ trivial trivial rfl rfl E212
theorem S212 : ConS Tryz.prog 212 C212 := B212.call rfl
noncomputable def f_impl_wordsOk_1 (x0 : Int) : Option (Bool) :=
 (f_impl_isWord x0).bind fun y0 =>
 some (!y0)
noncomputable def C211 : Con := ⟨[(.B, false, [iI])], [(false, [.bool])], [iI], [.bool], fun (p : Int) => f_impl_wordsOk_1 p⟩
noncomputable abbrev K211 : Cons := [(212, C212)]
noncomputable abbrev L211 : List (Nat × Loops) := []
abbrev Q211 : List (Nat × List (Int × Nat) × Nat) := []
noncomputable abbrev X211 : Nat → Ctx := ctxOf tb K211 L211 Q211
theorem E211 : ∀ x, funRun fs X211 6 211 C211 x = C211.fn x := fun x => by kernel_rfl
theorem B211 : ConB Tryz.prog 211 C211 := ConB.make FS MIX TY (cons := K211) (L := L211) (ptrs := Q211) ⟨S212, trivial⟩ trivial trivial rfl rfl E211
theorem S211 : ConS Tryz.prog 211 C211 := B211.call rfl
noncomputable def f_impl_wordsOk.l0 : Nat → (List Int) → Int → Int → Int → Option ((Int) ⊕ (Int))
 | 0, _, _, _, _ => none
 | n + 1, p0, p1, p2, p3 =>
 bif (decide (p3 < p2)) then
 bif ((decide ((0 : Int) ≤ p3)) && (decide (p3 < (p0.length : Int)))) then
 (f_impl_wordsOk_1 (p0.getD p3.toNat 0)).bind fun y4 =>
 bif y4 then
 some (.inl p3)
 else
 f_impl_wordsOk.l0 n p0 p1 p2 (IntKind.wrap .i64 (p3 + (1 : Int)))
 else none
 else
 some (.inr p1)
noncomputable def f_impl_wordsOk (x0 : List Int) (x1 : Int) : Option (Bool) :=
 bif (decide ((x0.length : Int) = x1)) then
 (f_impl_wordsOk.l0 N x0 0 (x0.length : Int) 0).bind fun r0 =>
 cs r0 (fun a1 =>
 some (!(decide ((0 : Int) ≤ a1)))) (fun b2 =>
 some true)
 else
 some false
noncomputable def C179 : Con := ⟨[(.B, false, [(.sl R1)]), (.B, false, [iI])], [(false, [.bool])], [(.sl R1), iI], [.bool], fun (p : List Int × Int) => f_impl_wordsOk p.1 p.2⟩
noncomputable abbrev f_impl_wordsOk.l0.u (n : Nat) := fun (p : List Int × Int × Int × Int) => f_impl_wordsOk.l0 n p.1 p.2.1 p.2.2.1 p.2.2.2
noncomputable def f_impl_wordsOk.l0.c : LoopCon := ⟨1274, 4, [0, 1, 4, 7, 8], ⟨[(0, bN R1), (1, .func 211 []), (4, i0), (7, i0), (8, i0)], [], 1274⟩, [(.sl R1), iI, iI, iI], [⟨.ret, [4], ⟨[(4, i0)], [], 1274⟩, [iI]⟩, ⟨.exit 0, [4], ⟨[(4, i0)], [], 1274⟩, [iI]⟩], f_impl_wordsOk.l0.u N⟩
noncomputable abbrev K179 : Cons := [(211, C211)]
noncomputable abbrev L179 : List (Nat × Loops) := [(222, [(2, f_impl_wordsOk.l0.c)])]
abbrev Q179 : List (Nat × List (Int × Nat) × Nat) := []
noncomputable abbrev X179 : Nat → Ctx := ctxOf tb K179 L179 Q179
theorem f_impl_wordsOk.l0.ok : ∀ n p, f_impl_wordsOk.l0.u n p = iterD (roundOf fs X179 4 222 2 true f_impl_wordsOk.l0.c) n p :=
 iter_of (l := f_impl_wordsOk.l0.u) (fun _ => rfl) (fun n p => by kernel_rfl)
theorem E179 : ∀ x, funRun fs X179 6 179 C179 x = C179.fn x := fun x => by kernel_rfl
theorem B179 : ConB Tryz.prog 179 C179 := ConB.make FS MIX TY (cons := K179) (L := L179) (ptrs := Q179) ⟨S211, trivial⟩ trivial ⟨⟨⟨N, fun p => f_impl_wordsOk.l0.ok N p⟩, trivial⟩, trivial⟩ rfl rfl E179
theorem S179 : ConS Tryz.prog 179 C179 := B179.call rfl
noncomputable def f_impl_FrameOk (x0 : Int) (x1 : List Int) (x2 : Bool) : Option (Bool) :=
 bif (decide (x0 = (0 : Int))) then
 some (decide ((x1.length : Int) = (0 : Int)))
 else
 bif (decide (x0 = (1 : Int))) then
 (f_impl_wordsOk x1 4).bind fun y0 =>
 some y0
 else
 bif (decide (x0 = (2 : Int))) then
 (f_impl_wordsOk x1 4).bind fun y1 =>
 some y1
 else
 some false
noncomputable def C120 : Con := ⟨[(.B, true, [iI, (.sl R1), .bool])], [(false, [.bool])], [iI, (.sl R1), .bool], [.bool], fun (p : Int × List Int × Bool) => f_impl_FrameOk p.1 p.2.1 p.2.2⟩
noncomputable abbrev K120 : Cons := [(179, C179)]
noncomputable abbrev L120 : List (Nat × Loops) := []
abbrev Q120 : List (Nat × List (Int × Nat) × Nat) := []
noncomputable abbrev X120 : Nat → Ctx := ctxOf tb K120 L120 Q120
theorem E120 : ∀ x, funRun fs X120 6 120 C120 x = C120.fn x := fun x => by kernel_rfl
theorem B120 : ConB Tryz.prog 120 C120 := ConB.make FS MIX TY (cons := K120) (L := L120) (ptrs := Q120) ⟨S179, trivial⟩ trivial trivial rfl rfl E120
theorem S120 : ConS Tryz.prog 120 C120 := B120.call rfl
noncomputable def f_impl_NodeOk_1 (x0 : Int) (x1 : List Int) (x2 : Bool) : Option (Bool) :=
 (f_impl_FrameOk x0 x1 x2).bind fun y0 =>
 some (!y0)
noncomputable def C119 : Con := ⟨[(.B, true, [iI, (.sl R1), .bool])], [(false, [.bool])], [iI, (.sl R1), .bool], [.bool], fun (p : Int × List Int × Bool) => f_impl_NodeOk_1 p.1 p.2.1 p.2.2⟩
noncomputable abbrev K119 : Cons := [(120, C120)]
noncomputable abbrev L119 : List (Nat × Loops) := []
abbrev Q119 : List (Nat × List (Int × Nat) × Nat) := []
noncomputable abbrev X119 : Nat → Ctx := ctxOf tb K119 L119 Q119
theorem E119 : ∀ x, funRun fs X119 6 119 C119 x = C119.fn x := fun x => by kernel_rfl
theorem B119 : ConB Tryz.prog 119 C119 := ConB.make FS MIX TY (cons := K119) (L := L119) (ptrs := Q119) ⟨S120, trivial⟩ trivial trivial rfl rfl E119
theorem S119 : ConS Tryz.prog 119 C119 := B119.call rfl
noncomputable def f_impl_HomeOk_1 (x0 : Int) (x1 : Bool) (x2 : Int) : Option (Bool) :=
 (f_impl_isOf x0 x2).bind fun y0 =>
 some (!y0)
noncomputable def C188 : Con := ⟨[(.B, true, [iI, .bool]), (.Q, false, [iI])], [(false, [.bool])], [iI, .bool, iI], [.bool], fun (p : Int × Bool × Int) => f_impl_HomeOk_1 p.1 p.2.1 p.2.2⟩
noncomputable abbrev K188 : Cons := [(100, C100)]
noncomputable abbrev L188 : List (Nat × Loops) := []
abbrev Q188 : List (Nat × List (Int × Nat) × Nat) := []
noncomputable abbrev X188 : Nat → Ctx := ctxOf tb K188 L188 Q188
theorem E188 : ∀ x, funG fs X188 6 188 C188 x = C188.fn x := fun x => by kernel_rfl
theorem B188 : ConG Tryz.prog 188 C188 := ConG.make FS MIX TY (cons := K188) (L := L188) (ptrs := Q188) ⟨S100, trivial⟩ trivial trivial rfl (by kernel_rfl) E188
theorem S188 : ConS Tryz.prog 188 C188 := B188.call (by kernel_rfl)
noncomputable def f_impl_HomeOk.l0 : Nat → tyW → Int → Int → Int → (List Int) → Int → (List Bool) → Bool → Int → Bool → Int → tyW → Int → Option ((Int × List Int × Int × List Bool × Bool × Int × Bool × Int × tyW × Int) ⊕ (Int × List Int × Int × List Bool × Bool × Int × Bool × Int × tyW × Int))
 | 0, _, _, _, _, _, _, _, _, _, _, _, _, _ => none
 | n + 1, p0, p1, p2, p3, p4, p5, p6, p7, p8, p9, p10, p11, p12 =>
 bif (decide (p3 < p2)) then
 bif ((decide ((0 : Int) ≤ p3)) && (decide (p3 < (p0.length : Int)))) then
 (f_impl_HomeOk_1 ((p0.getD p3.toNat (0, false)).1) ((p0.getD p3.toNat (0, false)).2) p12).bind fun y13 =>
 bif y13 then
 some (.inl (p3, p4, p5, p6, p7, p8, p9, p10, p11, p12))
 else
 f_impl_HomeOk.l0 n p0 p1 p2 (IntKind.wrap .i64 (p3 + (1 : Int))) p4 p5 p6 p7 p8 p9 p10 p11 p12
 else none
 else
 some (.inr (p1, p4, p5, p6, p7, p8, p9, p10, p11, p12))
noncomputable def f_impl_HomeOk (x0 : List Int) (x1 : Int) (x2 : List Bool) (x3 : Bool) (x4 : Int) (x5 : Bool) (x6 : Int) (x7 : tyW) (x8 : Int) : Option (Bool) :=
 (f_impl_from x8 1 4).bind fun y0 =>
 bif y0 then
 (f_impl_wordsOk x0 4).bind fun y1 =>
 bif y1 then
 (f_impl_from x1 (-1) (IntKind.wrap .i64 (x8 - (1 : Int)))).bind fun y2 =>
 bif y2 then
 bif (decide ((x2.length : Int) = x8)) then
 (f_impl_isOf x4 x8).bind fun y3 =>
 bif y3 then
 (f_impl_from x6 0 x8).bind fun y4 =>
 bif y4 then
 bif (decide ((x7.length : Int) ≤ (12 : Int))) then
 (f_impl_HomeOk.l0 N x7 0 (x7.length : Int) 0 x0 x1 x2 x3 x4 x5 x6 x7 x8).bind fun r5 =>
 cs r5 (fun a6 =>
 some (!(decide ((0 : Int) ≤ a6.1)))) (fun b7 =>
 some true)
 else
 some false
 else
 some false
 else
 some false
 else
 some false
 else
 some false
 else
 some false
 else
 some false
noncomputable def C123 : Con := ⟨[(.B, true, [(.sl R1), iI, (.sl R2), .bool, iI, .bool, iI, (.sl R3)]), (.B, false, [iI])], [(false, [.bool])], [(.sl R1), iI, (.sl R2), .bool, iI, .bool, iI, (.sl R3), iI], [.bool], fun (p : List Int × Int × List Bool × Bool × Int × Bool × Int × tyW × Int) => f_impl_HomeOk p.1 p.2.1 p.2.2.1 p.2.2.2.1 p.2.2.2.2.1 p.2.2.2.2.2.1 p.2.2.2.2.2.2.1 p.2.2.2.2.2.2.2.1 p.2.2.2.2.2.2.2.2⟩
noncomputable abbrev f_impl_HomeOk.l0.u (n : Nat) := fun (p : tyW × Int × Int × Int × List Int × Int × List Bool × Bool × Int × Bool × Int × tyW × Int) => f_impl_HomeOk.l0 n p.1 p.2.1 p.2.2.1 p.2.2.2.1 p.2.2.2.2.1 p.2.2.2.2.2.1 p.2.2.2.2.2.2.1 p.2.2.2.2.2.2.2.1 p.2.2.2.2.2.2.2.2.1 p.2.2.2.2.2.2.2.2.2.1 p.2.2.2.2.2.2.2.2.2.2.1 p.2.2.2.2.2.2.2.2.2.2.2.1 p.2.2.2.2.2.2.2.2.2.2.2.2
noncomputable def f_impl_HomeOk.l0.c : LoopCon := ⟨1921, 4, [0, 1, 4, 7, 8], ⟨[(0, bN R3), (1, .func 188 [.ptr 1025 0]), (4, i0), (7, i0), (8, i0)], [(1009, .box [.bor (some 0) R1 [], i0, .bor (some 2) R2 [], .bool false, i0, .bool false, i0, .bor (some 7) R3 []]), (1025, .box [i0])], 1921⟩, [(.sl R3), iI, iI, iI, (.sl R1), iI, (.sl R2), .bool, iI, .bool, iI, (.sl R3), iI], [⟨.ret, [4], ⟨[(4, i0)], [(1009, .box [.bor (some 0) R1 [], i0, .bor (some 2) R2 [], .bool false, i0, .bool false, i0, .bor (some 7) R3 []]), (1025, .box [i0])], 1921⟩, [iI, (.sl R1), iI, (.sl R2), .bool, iI, .bool, iI, (.sl R3), iI]⟩, ⟨.exit 0, [4], ⟨[(4, i0)], [(1009, .box [.bor (some 0) R1 [], i0, .bor (some 2) R2 [], .bool false, i0, .bool false, i0, .bor (some 7) R3 []]), (1025, .box [i0])], 1921⟩, [iI, (.sl R1), iI, (.sl R2), .bool, iI, .bool, iI, (.sl R3), iI]⟩], f_impl_HomeOk.l0.u N⟩
noncomputable abbrev K123 : Cons := [(100, C100), (140, C140), (179, C179), (188, C188)]
noncomputable abbrev L123 : List (Nat × Loops) := [(217, [(2, f_impl_HomeOk.l0.c)])]
abbrev Q123 : List (Nat × List (Int × Nat) × Nat) := []
noncomputable abbrev X123 : Nat → Ctx := ctxOf tb K123 L123 Q123
theorem f_impl_HomeOk.l0.ok : ∀ n p, f_impl_HomeOk.l0.u n p = iterD (roundOf fs X123 4 217 2 true f_impl_HomeOk.l0.c) n p :=
 iter_of (l := f_impl_HomeOk.l0.u) (fun _ => rfl) (fun n p => by kernel_rfl)
theorem E123 : ∀ x, funRun fs X123 6 123 C123 x = C123.fn x := fun x => by kernel_rfl
theorem B123 : ConB Tryz.prog 123 C123 := ConB.make FS MIX TY (cons := K123) (L := L123) (ptrs := Q123) ⟨S100, S140, S179, S188, trivial⟩ trivial ⟨⟨⟨N, fun p => f_impl_HomeOk.l0.ok N p⟩, trivial⟩, trivial⟩ rfl rfl E123
theorem S123 : ConS Tryz.prog 123 C123 := B123.call rfl
noncomputable def f_impl_NodeOk_2 (x0 : List Int) (x1 : Int) (x2 : List Bool) (x3 : Bool) (x4 : Int) (x5 : Bool) (x6 : Int) (x7 : tyW) (x8 : Int) : Option (Bool) :=
 (f_impl_HomeOk x0 x1 x2 x3 x4 x5 x6 x7 x8).bind fun y0 =>
 some (!y0)
noncomputable def C122 : Con := ⟨[(.B, true, [(.sl R1), iI, (.sl R2), .bool, iI, .bool, iI, (.sl R3)]), (.Q, false, [iI])], [(false, [.bool])], [(.sl R1), iI, (.sl R2), .bool, iI, .bool, iI, (.sl R3), iI], [.bool], fun (p : List Int × Int × List Bool × Bool × Int × Bool × Int × tyW × Int) => f_impl_NodeOk_2 p.1 p.2.1 p.2.2.1 p.2.2.2.1 p.2.2.2.2.1 p.2.2.2.2.2.1 p.2.2.2.2.2.2.1 p.2.2.2.2.2.2.2.1 p.2.2.2.2.2.2.2.2⟩
noncomputable abbrev K122 : Cons := [(123, C123)]
noncomputable abbrev L122 : List (Nat × Loops) := []
abbrev Q122 : List (Nat × List (Int × Nat) × Nat) := []
noncomputable abbrev X122 : Nat → Ctx := ctxOf tb K122 L122 Q122
theorem E122 : ∀ x, funG fs X122 6 122 C122 x = C122.fn x := fun x => by kernel_rfl
theorem B122 : ConG Tryz.prog 122 C122 := ConG.make FS MIX TY (cons := K122) (L := L122) (ptrs := Q122) ⟨S123, trivial⟩ trivial trivial rfl (by kernel_rfl) E122
theorem S122 : ConS Tryz.prog 122 C122 := B122.call (by kernel_rfl)
noncomputable def f_impl_isSeq (x0 : Int) : Option (Bool) :=
 (f_impl_from x0 0 100000).bind fun y0 =>
 some y0
noncomputable def C129 : Con := ⟨[(.B, false, [iI])], [(false, [.bool])], [iI], [.bool], fun (p : Int) => f_impl_isSeq p⟩
noncomputable abbrev K129 : Cons := [(140, C140)]
noncomputable abbrev L129 : List (Nat × Loops) := []
abbrev Q129 : List (Nat × List (Int × Nat) × Nat) := []
noncomputable abbrev X129 : Nat → Ctx := ctxOf tb K129 L129 Q129
theorem E129 : ∀ x, funRun fs X129 6 129 C129 x = C129.fn x := fun x => by kernel_rfl
theorem B129 : ConB Tryz.prog 129 C129 := ConB.make FS MIX TY (cons := K129) (L := L129) (ptrs := Q129) ⟨S140, trivial⟩ trivial trivial rfl rfl E129
theorem S129 : ConS Tryz.prog 129 C129 := B129.call rfl
noncomputable def f_impl_isPage (x0 : Int) : Option (Bool) :=
 (f_impl_from x0 0 5).bind fun y0 =>
 some y0
noncomputable def C65 : Con := ⟨[(.B, false, [iI])], [(false, [.bool])], [iI], [.bool], fun (p : Int) => f_impl_isPage p⟩
noncomputable abbrev K65 : Cons := [(140, C140)]
noncomputable abbrev L65 : List (Nat × Loops) := []
abbrev Q65 : List (Nat × List (Int × Nat) × Nat) := []
noncomputable abbrev X65 : Nat → Ctx := ctxOf tb K65 L65 Q65
theorem E65 : ∀ x, funRun fs X65 6 65 C65 x = C65.fn x := fun x => by kernel_rfl
theorem B65 : ConB Tryz.prog 65 C65 := ConB.make FS MIX TY (cons := K65) (L := L65) (ptrs := Q65) ⟨S140, trivial⟩ trivial trivial rfl rfl E65
theorem S65 : ConS Tryz.prog 65 C65 := B65.call rfl
noncomputable def f_impl_MsgOk (x0 : Int) (x1 : Int) (x2 : Bool) (x3 : List Int) : Option (Bool) :=
 (f_impl_from x0 1 7).bind fun y0 =>
 bif (!y0) then
 some false
 else
 (f_impl_isPage x1).bind fun y1 =>
 bif (!y1) then
 some false
 else
 bif x2 then
 bif (!(decide (x0 = (3 : Int)))) then
 bif (!(decide (x0 = (6 : Int)))) then
 some false
 else
 bif (decide (x0 = (3 : Int))) then
 (f_impl_wordsOk x3 4).bind fun y2 =>
 some y2
 else
 bif (decide (x0 = (7 : Int))) then
 (f_impl_wordsOk x3 4).bind fun y3 =>
 some y3
 else
 some (decide ((x3.length : Int) = (0 : Int)))
 else
 bif (decide (x0 = (3 : Int))) then
 (f_impl_wordsOk x3 4).bind fun y4 =>
 some y4
 else
 bif (decide (x0 = (7 : Int))) then
 (f_impl_wordsOk x3 4).bind fun y5 =>
 some y5
 else
 some (decide ((x3.length : Int) = (0 : Int)))
 else
 bif (decide (x0 = (3 : Int))) then
 (f_impl_wordsOk x3 4).bind fun y6 =>
 some y6
 else
 bif (decide (x0 = (7 : Int))) then
 (f_impl_wordsOk x3 4).bind fun y7 =>
 some y7
 else
 some (decide ((x3.length : Int) = (0 : Int)))
noncomputable def C110 : Con := ⟨[(.B, true, [iI, iI, .bool, (.sl R1)])], [(false, [.bool])], [iI, iI, .bool, (.sl R1)], [.bool], fun (p : Int × Int × Bool × List Int) => f_impl_MsgOk p.1 p.2.1 p.2.2.1 p.2.2.2⟩
noncomputable abbrev K110 : Cons := [(65, C65), (140, C140), (179, C179)]
noncomputable abbrev L110 : List (Nat × Loops) := []
abbrev Q110 : List (Nat × List (Int × Nat) × Nat) := []
noncomputable abbrev X110 : Nat → Ctx := ctxOf tb K110 L110 Q110
theorem E110 : ∀ x, funRun fs X110 6 110 C110 x = C110.fn x := fun x => by kernel_rfl
theorem B110 : ConB Tryz.prog 110 C110 := ConB.make FS MIX TY (cons := K110) (L := L110) (ptrs := Q110) ⟨S65, S140, S179, trivial⟩ trivial trivial rfl rfl E110
theorem S110 : ConS Tryz.prog 110 C110 := B110.call rfl
noncomputable def f_impl_SenderOk_1 (x0 : Int) (x1 : Int) (x2 : Bool) (x3 : List Int) : Option (Bool) :=
 (f_impl_MsgOk x0 x1 x2 x3).bind fun y0 =>
 some (!y0)
noncomputable def C191 : Con := ⟨[(.B, true, [iI, iI, .bool, (.sl R1)])], [(false, [.bool])], [iI, iI, .bool, (.sl R1)], [.bool], fun (p : Int × Int × Bool × List Int) => f_impl_SenderOk_1 p.1 p.2.1 p.2.2.1 p.2.2.2⟩
noncomputable abbrev K191 : Cons := [(110, C110)]
noncomputable abbrev L191 : List (Nat × Loops) := []
abbrev Q191 : List (Nat × List (Int × Nat) × Nat) := []
noncomputable abbrev X191 : Nat → Ctx := ctxOf tb K191 L191 Q191
theorem E191 : ∀ x, funRun fs X191 6 191 C191 x = C191.fn x := fun x => by kernel_rfl
theorem B191 : ConB Tryz.prog 191 C191 := ConB.make FS MIX TY (cons := K191) (L := L191) (ptrs := Q191) ⟨S110, trivial⟩ trivial trivial rfl rfl E191
theorem S191 : ConS Tryz.prog 191 C191 := B191.call rfl
noncomputable def f_impl_SenderOk.l0 : Nat → tyM → Int → Int → Int → Int → tyM → Option ((Int × Int × tyM) ⊕ (Int × Int × tyM))
 | 0, _, _, _, _, _, _ => none
 | n + 1, p0, p1, p2, p3, p4, p5 =>
 bif (decide (p3 < p2)) then
 bif ((decide ((0 : Int) ≤ p3)) && (decide (p3 < (p0.length : Int)))) then
 (f_impl_SenderOk_1 ((p0.getD p3.toNat (0, 0, false, [])).1) ((p0.getD p3.toNat (0, 0, false, [])).2.1) ((p0.getD p3.toNat (0, 0, false, [])).2.2.1) ((p0.getD p3.toNat (0, 0, false, [])).2.2.2)).bind fun y6 =>
 bif y6 then
 some (.inl (p3, p4, p5))
 else
 f_impl_SenderOk.l0 n p0 p1 p2 (IntKind.wrap .i64 (p3 + (1 : Int))) p4 p5
 else none
 else
 some (.inr (p1, p4, p5))
noncomputable def f_impl_SenderOk (x0 : Int) (x1 : tyM) : Option (Bool) :=
 (f_impl_isSeq x0).bind fun y0 =>
 bif y0 then
 bif (decide ((x1.length : Int) ≤ (30 : Int))) then
 bif (decide ((IntKind.wrap .i64 (x0 + (x1.length : Int))) ≤ (100000 : Int))) then
 (f_impl_SenderOk.l0 N x1 0 (x1.length : Int) 0 x0 x1).bind fun r1 =>
 cs r1 (fun a2 =>
 some (!(decide ((0 : Int) ≤ a2.1)))) (fun b3 =>
 some true)
 else
 some false
 else
 some false
 else
 some false
noncomputable def C126 : Con := ⟨[(.B, true, [iI, (.sl R6)])], [(false, [.bool])], [iI, (.sl R6)], [.bool], fun (p : Int × tyM) => f_impl_SenderOk p.1 p.2⟩
noncomputable abbrev f_impl_SenderOk.l0.u (n : Nat) := fun (p : tyM × Int × Int × Int × Int × tyM) => f_impl_SenderOk.l0 n p.1 p.2.1 p.2.2.1 p.2.2.2.1 p.2.2.2.2.1 p.2.2.2.2.2
noncomputable def f_impl_SenderOk.l0.c : LoopCon := ⟨1530, 4, [0, 1, 4, 7, 8], ⟨[(0, bN R6), (1, .func 191 []), (4, i0), (7, i0), (8, i0)], [(1002, .box [i0, .bor (some 1) R6 []])], 1530⟩, [(.sl R6), iI, iI, iI, iI, (.sl R6)], [⟨.ret, [4], ⟨[(4, i0)], [(1002, .box [i0, .bor (some 1) R6 []])], 1530⟩, [iI, iI, (.sl R6)]⟩, ⟨.exit 0, [4], ⟨[(4, i0)], [(1002, .box [i0, .bor (some 1) R6 []])], 1530⟩, [iI, iI, (.sl R6)]⟩], f_impl_SenderOk.l0.u N⟩
noncomputable abbrev K126 : Cons := [(129, C129), (191, C191)]
noncomputable abbrev L126 : List (Nat × Loops) := [(218, [(2, f_impl_SenderOk.l0.c)])]
abbrev Q126 : List (Nat × List (Int × Nat) × Nat) := []
noncomputable abbrev X126 : Nat → Ctx := ctxOf tb K126 L126 Q126
theorem f_impl_SenderOk.l0.ok : ∀ n p, f_impl_SenderOk.l0.u n p = iterD (roundOf fs X126 4 218 2 true f_impl_SenderOk.l0.c) n p :=
 iter_of (l := f_impl_SenderOk.l0.u) (fun _ => rfl) (fun n p => by kernel_rfl)
theorem E126 : ∀ x, funRun fs X126 6 126 C126 x = C126.fn x := fun x => by kernel_rfl
theorem B126 : ConB Tryz.prog 126 C126 := ConB.make FS MIX TY (cons := K126) (L := L126) (ptrs := Q126) ⟨S129, S191, trivial⟩ trivial ⟨⟨⟨N, fun p => f_impl_SenderOk.l0.ok N p⟩, trivial⟩, trivial⟩ rfl rfl E126
theorem S126 : ConS Tryz.prog 126 C126 := B126.call rfl
noncomputable def f_impl_NodeOk_3 (x0 : Int) (x1 : tyM) : Option (Bool) :=
 (f_impl_SenderOk x0 x1).bind fun y0 =>
 some (!y0)
noncomputable def C125 : Con := ⟨[(.B, true, [iI, (.sl R6)])], [(false, [.bool])], [iI, (.sl R6)], [.bool], fun (p : Int × tyM) => f_impl_NodeOk_3 p.1 p.2⟩
noncomputable abbrev K125 : Cons := [(126, C126)]
noncomputable abbrev L125 : List (Nat × Loops) := []
abbrev Q125 : List (Nat × List (Int × Nat) × Nat) := []
noncomputable abbrev X125 : Nat → Ctx := ctxOf tb K125 L125 Q125
theorem E125 : ∀ x, funRun fs X125 6 125 C125 x = C125.fn x := fun x => by kernel_rfl
theorem B125 : ConB Tryz.prog 125 C125 := ConB.make FS MIX TY (cons := K125) (L := L125) (ptrs := Q125) ⟨S126, trivial⟩ trivial trivial rfl rfl E125
theorem S125 : ConS Tryz.prog 125 C125 := B125.call rfl
noncomputable def f_impl_NodeOk_4 (x0 : Int) : Option (Bool) :=
 (f_impl_isSeq x0).bind fun y0 =>
 some (!y0)
noncomputable def C128 : Con := ⟨[(.B, true, [iI])], [(false, [.bool])], [iI], [.bool], fun (p : Int) => f_impl_NodeOk_4 p⟩
noncomputable abbrev K128 : Cons := [(129, C129)]
noncomputable abbrev L128 : List (Nat × Loops) := []
abbrev Q128 : List (Nat × List (Int × Nat) × Nat) := []
noncomputable abbrev X128 : Nat → Ctx := ctxOf tb K128 L128 Q128
theorem E128 : ∀ x, funRun fs X128 6 128 C128 x = C128.fn x := fun x => by kernel_rfl
theorem B128 : ConB Tryz.prog 128 C128 := ConB.make FS MIX TY (cons := K128) (L := L128) (ptrs := Q128) ⟨S129, trivial⟩ trivial trivial rfl rfl E128
theorem S128 : ConS Tryz.prog 128 C128 := B128.call rfl
noncomputable def f_impl_NodeOk.l9 : Nat → (List Int) → Int → Int → Int → Int → tyF → tyH → tyS → (List Int) → Int → Option ((Int × Int × tyF × tyH × tyS × List Int × Int) ⊕ (Int × Int × tyF × tyH × tyS × List Int × Int))
 | 0, _, _, _, _, _, _, _, _, _, _ => none
 | n + 1, p0, p1, p2, p3, p4, p5, p6, p7, p8, p9 =>
 bif (decide (p3 < p2)) then
 bif ((decide ((0 : Int) ≤ p3)) && (decide (p3 < (p0.length : Int)))) then
 (f_impl_NodeOk_4 (p0.getD p3.toNat 0)).bind fun y10 =>
 bif y10 then
 some (.inl (p3, p4, p5, p6, p7, p8, p9))
 else
 f_impl_NodeOk.l9 n p0 p1 p2 (IntKind.wrap .i64 (p3 + (1 : Int))) p4 p5 p6 p7 p8 p9
 else none
 else
 some (.inr (p1, p4, p5, p6, p7, p8, p9))
noncomputable def f_impl_NodeOk.l8 : Nat → tyS → Int → Int → Int → Int → tyF → tyH → tyS → (List Int) → Int → Option ((Int × Int × tyF × tyH × tyS × List Int × Int) ⊕ (Int × Int × tyF × tyH × tyS × List Int × Int))
 | 0, _, _, _, _, _, _, _, _, _, _ => none
 | n + 1, p0, p1, p2, p3, p4, p5, p6, p7, p8, p9 =>
 bif (decide (p3 < p2)) then
 bif ((decide ((0 : Int) ≤ p3)) && (decide (p3 < (p0.length : Int)))) then
 (f_impl_NodeOk_3 ((p0.getD p3.toNat (0, [])).1) ((p0.getD p3.toNat (0, [])).2)).bind fun y10 =>
 bif y10 then
 some (.inl (p3, p4, p5, p6, p7, p8, p9))
 else
 f_impl_NodeOk.l8 n p0 p1 p2 (IntKind.wrap .i64 (p3 + (1 : Int))) p4 p5 p6 p7 p8 p9
 else none
 else
 some (.inr (p1, p4, p5, p6, p7, p8, p9))
noncomputable def f_impl_NodeOk.l7 : Nat → tyH → Int → Int → Int → Int → tyF → tyH → tyS → (List Int) → Int → Option ((Int × Int × tyF × tyH × tyS × List Int × Int) ⊕ (Int × Int × tyF × tyH × tyS × List Int × Int))
 | 0, _, _, _, _, _, _, _, _, _, _ => none
 | n + 1, p0, p1, p2, p3, p4, p5, p6, p7, p8, p9 =>
 bif (decide (p3 < p2)) then
 bif ((decide ((0 : Int) ≤ p3)) && (decide (p3 < (p0.length : Int)))) then
 (f_impl_NodeOk_2 ((p0.getD p3.toNat ([], 0, [], false, 0, false, 0, [])).1) ((p0.getD p3.toNat ([], 0, [], false, 0, false, 0, [])).2.1) ((p0.getD p3.toNat ([], 0, [], false, 0, false, 0, [])).2.2.1) ((p0.getD p3.toNat ([], 0, [], false, 0, false, 0, [])).2.2.2.1) ((p0.getD p3.toNat ([], 0, [], false, 0, false, 0, [])).2.2.2.2.1) ((p0.getD p3.toNat ([], 0, [], false, 0, false, 0, [])).2.2.2.2.2.1) ((p0.getD p3.toNat ([], 0, [], false, 0, false, 0, [])).2.2.2.2.2.2.1) ((p0.getD p3.toNat ([], 0, [], false, 0, false, 0, [])).2.2.2.2.2.2.2) p9).bind fun y10 =>
 bif y10 then
 some (.inl (p3, p4, p5, p6, p7, p8, p9))
 else
 f_impl_NodeOk.l7 n p0 p1 p2 (IntKind.wrap .i64 (p3 + (1 : Int))) p4 p5 p6 p7 p8 p9
 else none
 else
 some (.inr (p1, p4, p5, p6, p7, p8, p9))
noncomputable def f_impl_NodeOk.l6 : Nat → (List Int) → Int → Int → Int → Int → tyF → tyH → tyS → (List Int) → Int → Option ((Int × Int × tyF × tyH × tyS × List Int × Int) ⊕ (Int × Int × tyF × tyH × tyS × List Int × Int))
 | 0, _, _, _, _, _, _, _, _, _, _ => none
 | n + 1, p0, p1, p2, p3, p4, p5, p6, p7, p8, p9 =>
 bif (decide (p3 < p2)) then
 bif ((decide ((0 : Int) ≤ p3)) && (decide (p3 < (p0.length : Int)))) then
 (f_impl_NodeOk_4 (p0.getD p3.toNat 0)).bind fun y10 =>
 bif y10 then
 some (.inl (p3, p4, p5, p6, p7, p8, p9))
 else
 f_impl_NodeOk.l6 n p0 p1 p2 (IntKind.wrap .i64 (p3 + (1 : Int))) p4 p5 p6 p7 p8 p9
 else none
 else
 some (.inr (p1, p4, p5, p6, p7, p8, p9))
noncomputable def f_impl_NodeOk.l5 : Nat → tyS → Int → Int → Int → Int → tyF → tyH → tyS → (List Int) → Int → Option ((Int × Int × tyF × tyH × tyS × List Int × Int) ⊕ (Int × Int × tyF × tyH × tyS × List Int × Int))
 | 0, _, _, _, _, _, _, _, _, _, _ => none
 | n + 1, p0, p1, p2, p3, p4, p5, p6, p7, p8, p9 =>
 bif (decide (p3 < p2)) then
 bif ((decide ((0 : Int) ≤ p3)) && (decide (p3 < (p0.length : Int)))) then
 (f_impl_NodeOk_3 ((p0.getD p3.toNat (0, [])).1) ((p0.getD p3.toNat (0, [])).2)).bind fun y10 =>
 bif y10 then
 some (.inl (p3, p4, p5, p6, p7, p8, p9))
 else
 f_impl_NodeOk.l5 n p0 p1 p2 (IntKind.wrap .i64 (p3 + (1 : Int))) p4 p5 p6 p7 p8 p9
 else none
 else
 some (.inr (p1, p4, p5, p6, p7, p8, p9))
noncomputable def f_impl_NodeOk.l4 : Nat → (List Int) → Int → Int → Int → Int → tyF → tyH → tyS → (List Int) → Int → Option ((Int × Int × tyF × tyH × tyS × List Int × Int) ⊕ (Int × Int × tyF × tyH × tyS × List Int × Int))
 | 0, _, _, _, _, _, _, _, _, _, _ => none
 | n + 1, p0, p1, p2, p3, p4, p5, p6, p7, p8, p9 =>
 bif (decide (p3 < p2)) then
 bif ((decide ((0 : Int) ≤ p3)) && (decide (p3 < (p0.length : Int)))) then
 (f_impl_NodeOk_4 (p0.getD p3.toNat 0)).bind fun y10 =>
 bif y10 then
 some (.inl (p3, p4, p5, p6, p7, p8, p9))
 else
 f_impl_NodeOk.l4 n p0 p1 p2 (IntKind.wrap .i64 (p3 + (1 : Int))) p4 p5 p6 p7 p8 p9
 else none
 else
 some (.inr (p1, p4, p5, p6, p7, p8, p9))
noncomputable def f_impl_NodeOk.l3 : Nat → (List Int) → Int → Int → Int → Int → tyF → tyH → tyS → (List Int) → Int → Option ((Int × Int × tyF × tyH × tyS × List Int × Int) ⊕ (Int × Int × tyF × tyH × tyS × List Int × Int))
 | 0, _, _, _, _, _, _, _, _, _, _ => none
 | n + 1, p0, p1, p2, p3, p4, p5, p6, p7, p8, p9 =>
 bif (decide (p3 < p2)) then
 bif ((decide ((0 : Int) ≤ p3)) && (decide (p3 < (p0.length : Int)))) then
 (f_impl_NodeOk_4 (p0.getD p3.toNat 0)).bind fun y10 =>
 bif y10 then
 some (.inl (p3, p4, p5, p6, p7, p8, p9))
 else
 f_impl_NodeOk.l3 n p0 p1 p2 (IntKind.wrap .i64 (p3 + (1 : Int))) p4 p5 p6 p7 p8 p9
 else none
 else
 some (.inr (p1, p4, p5, p6, p7, p8, p9))
noncomputable def f_impl_NodeOk.l2 : Nat → tyS → Int → Int → Int → Int → tyF → tyH → tyS → (List Int) → Int → Option ((Int × Int × tyF × tyH × tyS × List Int × Int) ⊕ (Int × Int × tyF × tyH × tyS × List Int × Int))
 | 0, _, _, _, _, _, _, _, _, _, _ => none
 | n + 1, p0, p1, p2, p3, p4, p5, p6, p7, p8, p9 =>
 bif (decide (p3 < p2)) then
 bif ((decide ((0 : Int) ≤ p3)) && (decide (p3 < (p0.length : Int)))) then
 (f_impl_NodeOk_3 ((p0.getD p3.toNat (0, [])).1) ((p0.getD p3.toNat (0, [])).2)).bind fun y10 =>
 bif y10 then
 some (.inl (p3, p4, p5, p6, p7, p8, p9))
 else
 f_impl_NodeOk.l2 n p0 p1 p2 (IntKind.wrap .i64 (p3 + (1 : Int))) p4 p5 p6 p7 p8 p9
 else none
 else
 some (.inr (p1, p4, p5, p6, p7, p8, p9))
noncomputable def f_impl_NodeOk.l1 : Nat → tyH → Int → Int → Int → Int → tyF → tyH → tyS → (List Int) → Int → Option ((Int × Int × tyF × tyH × tyS × List Int × Int) ⊕ (Int × Int × tyF × tyH × tyS × List Int × Int))
 | 0, _, _, _, _, _, _, _, _, _, _ => none
 | n + 1, p0, p1, p2, p3, p4, p5, p6, p7, p8, p9 =>
 bif (decide (p3 < p2)) then
 bif ((decide ((0 : Int) ≤ p3)) && (decide (p3 < (p0.length : Int)))) then
 (f_impl_NodeOk_2 ((p0.getD p3.toNat ([], 0, [], false, 0, false, 0, [])).1) ((p0.getD p3.toNat ([], 0, [], false, 0, false, 0, [])).2.1) ((p0.getD p3.toNat ([], 0, [], false, 0, false, 0, [])).2.2.1) ((p0.getD p3.toNat ([], 0, [], false, 0, false, 0, [])).2.2.2.1) ((p0.getD p3.toNat ([], 0, [], false, 0, false, 0, [])).2.2.2.2.1) ((p0.getD p3.toNat ([], 0, [], false, 0, false, 0, [])).2.2.2.2.2.1) ((p0.getD p3.toNat ([], 0, [], false, 0, false, 0, [])).2.2.2.2.2.2.1) ((p0.getD p3.toNat ([], 0, [], false, 0, false, 0, [])).2.2.2.2.2.2.2) p9).bind fun y10 =>
 bif y10 then
 some (.inl (p3, p4, p5, p6, p7, p8, p9))
 else
 f_impl_NodeOk.l1 n p0 p1 p2 (IntKind.wrap .i64 (p3 + (1 : Int))) p4 p5 p6 p7 p8 p9
 else none
 else
 some (.inr (p1, p4, p5, p6, p7, p8, p9))
noncomputable def f_impl_NodeOk.l0 : Nat → tyF → Int → Int → Int → Int → tyF → tyH → tyS → (List Int) → Int → Option ((Int × Int × tyF × tyH × tyS × List Int × Int) ⊕ (Int × Int × tyF × tyH × tyS × List Int × Int))
 | 0, _, _, _, _, _, _, _, _, _, _ => none
 | n + 1, p0, p1, p2, p3, p4, p5, p6, p7, p8, p9 =>
 bif (decide (p3 < p2)) then
 bif ((decide ((0 : Int) ≤ p3)) && (decide (p3 < (p0.length : Int)))) then
 (f_impl_NodeOk_1 ((p0.getD p3.toNat (0, [], false)).1) ((p0.getD p3.toNat (0, [], false)).2.1) ((p0.getD p3.toNat (0, [], false)).2.2)).bind fun y10 =>
 bif y10 then
 some (.inl (p3, p4, p5, p6, p7, p8, p9))
 else
 f_impl_NodeOk.l0 n p0 p1 p2 (IntKind.wrap .i64 (p3 + (1 : Int))) p4 p5 p6 p7 p8 p9
 else none
 else
 some (.inr (p1, p4, p5, p6, p7, p8, p9))
noncomputable def f_impl_NodeOk (x0 : Int) (x1 : tyF) (x2 : tyH) (x3 : tyS) (x4 : List Int) (x5 : Int) : Option (Bool) :=
 (f_impl_isOf x0 x5).bind fun y0 =>
 bif y0 then
 bif (decide ((x1.length : Int) = (6 : Int))) then
 bif (decide ((x2.length : Int) = (6 : Int))) then
 bif (decide ((x3.length : Int) = x5)) then
 bif (decide ((x4.length : Int) = x5)) then
 (f_impl_NodeOk.l0 N x1 0 (x1.length : Int) 0 x0 x1 x2 x3 x4 x5).bind fun r1 =>
 cs r1 (fun a2 =>
 bif (!(decide ((0 : Int) ≤ a2.1))) then
 (f_impl_NodeOk.l1 N a2.2.2.2.1 0 (a2.2.2.2.1.length : Int) 0 a2.2.1 a2.2.2.1 a2.2.2.2.1 a2.2.2.2.2.1 a2.2.2.2.2.2.1 a2.2.2.2.2.2.2).bind fun r3 =>
 cs r3 (fun a4 =>
 bif (!(decide ((0 : Int) ≤ a4.1))) then
 (f_impl_NodeOk.l2 N a4.2.2.2.2.1 0 (a4.2.2.2.2.1.length : Int) 0 a4.2.1 a4.2.2.1 a4.2.2.2.1 a4.2.2.2.2.1 a4.2.2.2.2.2.1 a4.2.2.2.2.2.2).bind fun r5 =>
 cs r5 (fun a6 =>
 bif (!(decide ((0 : Int) ≤ a6.1))) then
 (f_impl_NodeOk.l3 N a6.2.2.2.2.2.1 0 (a6.2.2.2.2.2.1.length : Int) 0 a6.2.1 a6.2.2.1 a6.2.2.2.1 a6.2.2.2.2.1 a6.2.2.2.2.2.1 a6.2.2.2.2.2.2).bind fun r7 =>
 cs r7 (fun a8 =>
 some (!(decide ((0 : Int) ≤ a8.1)))) (fun b9 =>
 some true)
 else
 some false) (fun b10 =>
 (f_impl_NodeOk.l4 N b10.2.2.2.2.2.1 0 (b10.2.2.2.2.2.1.length : Int) 0 b10.2.1 b10.2.2.1 b10.2.2.2.1 b10.2.2.2.2.1 b10.2.2.2.2.2.1 b10.2.2.2.2.2.2).bind fun r11 =>
 cs r11 (fun a12 =>
 some (!(decide ((0 : Int) ≤ a12.1)))) (fun b13 =>
 some true))
 else
 some false) (fun b14 =>
 (f_impl_NodeOk.l5 N b14.2.2.2.2.1 0 (b14.2.2.2.2.1.length : Int) 0 b14.2.1 b14.2.2.1 b14.2.2.2.1 b14.2.2.2.2.1 b14.2.2.2.2.2.1 b14.2.2.2.2.2.2).bind fun r15 =>
 cs r15 (fun a16 =>
 bif (!(decide ((0 : Int) ≤ a16.1))) then
 (f_impl_NodeOk.l4 N a16.2.2.2.2.2.1 0 (a16.2.2.2.2.2.1.length : Int) 0 a16.2.1 a16.2.2.1 a16.2.2.2.1 a16.2.2.2.2.1 a16.2.2.2.2.2.1 a16.2.2.2.2.2.2).bind fun r17 =>
 cs r17 (fun a18 =>
 some (!(decide ((0 : Int) ≤ a18.1)))) (fun b19 =>
 some true)
 else
 some false) (fun b20 =>
 (f_impl_NodeOk.l6 N b20.2.2.2.2.2.1 0 (b20.2.2.2.2.2.1.length : Int) 0 b20.2.1 b20.2.2.1 b20.2.2.2.1 b20.2.2.2.2.1 b20.2.2.2.2.2.1 b20.2.2.2.2.2.2).bind fun r21 =>
 cs r21 (fun a22 =>
 some (!(decide ((0 : Int) ≤ a22.1)))) (fun b23 =>
 some true)))
 else
 some false) (fun b24 =>
 (f_impl_NodeOk.l7 N b24.2.2.2.1 0 (b24.2.2.2.1.length : Int) 0 b24.2.1 b24.2.2.1 b24.2.2.2.1 b24.2.2.2.2.1 b24.2.2.2.2.2.1 b24.2.2.2.2.2.2).bind fun r25 =>
 cs r25 (fun a26 =>
 bif (!(decide ((0 : Int) ≤ a26.1))) then
 (f_impl_NodeOk.l5 N a26.2.2.2.2.1 0 (a26.2.2.2.2.1.length : Int) 0 a26.2.1 a26.2.2.1 a26.2.2.2.1 a26.2.2.2.2.1 a26.2.2.2.2.2.1 a26.2.2.2.2.2.2).bind fun r27 =>
 cs r27 (fun a28 =>
 bif (!(decide ((0 : Int) ≤ a28.1))) then
 (f_impl_NodeOk.l4 N a28.2.2.2.2.2.1 0 (a28.2.2.2.2.2.1.length : Int) 0 a28.2.1 a28.2.2.1 a28.2.2.2.1 a28.2.2.2.2.1 a28.2.2.2.2.2.1 a28.2.2.2.2.2.2).bind fun r29 =>
 cs r29 (fun a30 =>
 some (!(decide ((0 : Int) ≤ a30.1)))) (fun b31 =>
 some true)
 else
 some false) (fun b32 =>
 (f_impl_NodeOk.l6 N b32.2.2.2.2.2.1 0 (b32.2.2.2.2.2.1.length : Int) 0 b32.2.1 b32.2.2.1 b32.2.2.2.1 b32.2.2.2.2.1 b32.2.2.2.2.2.1 b32.2.2.2.2.2.2).bind fun r33 =>
 cs r33 (fun a34 =>
 some (!(decide ((0 : Int) ≤ a34.1)))) (fun b35 =>
 some true))
 else
 some false) (fun b36 =>
 (f_impl_NodeOk.l8 N b36.2.2.2.2.1 0 (b36.2.2.2.2.1.length : Int) 0 b36.2.1 b36.2.2.1 b36.2.2.2.1 b36.2.2.2.2.1 b36.2.2.2.2.2.1 b36.2.2.2.2.2.2).bind fun r37 =>
 cs r37 (fun a38 =>
 bif (!(decide ((0 : Int) ≤ a38.1))) then
 (f_impl_NodeOk.l6 N a38.2.2.2.2.2.1 0 (a38.2.2.2.2.2.1.length : Int) 0 a38.2.1 a38.2.2.1 a38.2.2.2.1 a38.2.2.2.2.1 a38.2.2.2.2.2.1 a38.2.2.2.2.2.2).bind fun r39 =>
 cs r39 (fun a40 =>
 some (!(decide ((0 : Int) ≤ a40.1)))) (fun b41 =>
 some true)
 else
 some false) (fun b42 =>
 (f_impl_NodeOk.l9 N b42.2.2.2.2.2.1 0 (b42.2.2.2.2.2.1.length : Int) 0 b42.2.1 b42.2.2.1 b42.2.2.2.1 b42.2.2.2.2.1 b42.2.2.2.2.2.1 b42.2.2.2.2.2.2).bind fun r43 =>
 cs r43 (fun a44 =>
 some (!(decide ((0 : Int) ≤ a44.1)))) (fun b45 =>
 some true))))
 else
 some false
 else
 some false
 else
 some false
 else
 some false
 else
 some false
noncomputable def C47 : Con := ⟨[(.B, true, [iI, (.sl R4), (.sl R5), (.sl R7), (.sl R1)]), (.B, false, [iI])], [(false, [.bool])], [iI, (.sl R4), (.sl R5), (.sl R7), (.sl R1), iI], [.bool], fun (p : Int × tyF × tyH × tyS × List Int × Int) => f_impl_NodeOk p.1 p.2.1 p.2.2.1 p.2.2.2.1 p.2.2.2.2.1 p.2.2.2.2.2⟩
noncomputable abbrev f_impl_NodeOk.l0.u (n : Nat) := fun (p : tyF × Int × Int × Int × Int × tyF × tyH × tyS × List Int × Int) => f_impl_NodeOk.l0 n p.1 p.2.1 p.2.2.1 p.2.2.2.1 p.2.2.2.2.1 p.2.2.2.2.2.1 p.2.2.2.2.2.2.1 p.2.2.2.2.2.2.2.1 p.2.2.2.2.2.2.2.2.1 p.2.2.2.2.2.2.2.2.2
noncomputable def f_impl_NodeOk.l0.c : LoopCon := ⟨2046, 4, [0, 1, 4, 7, 8], ⟨[(0, bN R4), (1, .func 119 []), (4, i0), (7, i0), (8, i0)], [(1006, .box [i0, .bor (some 1) R4 [], .bor (some 2) R5 [], .bor (some 3) R7 [], .bor (some 4) R1 []]), (1022, .box [i0])], 2046⟩, [(.sl R4), iI, iI, iI, iI, (.sl R4), (.sl R5), (.sl R7), (.sl R1), iI], [⟨.ret, [4], ⟨[(4, i0)], [(1006, .box [i0, .bor (some 1) R4 [], .bor (some 2) R5 [], .bor (some 3) R7 [], .bor (some 4) R1 []]), (1022, .box [i0])], 2046⟩, [iI, iI, (.sl R4), (.sl R5), (.sl R7), (.sl R1), iI]⟩, ⟨.exit 0, [4], ⟨[(4, i0)], [(1006, .box [i0, .bor (some 1) R4 [], .bor (some 2) R5 [], .bor (some 3) R7 [], .bor (some 4) R1 []]), (1022, .box [i0])], 2046⟩, [iI, iI, (.sl R4), (.sl R5), (.sl R7), (.sl R1), iI]⟩], f_impl_NodeOk.l0.u N⟩
noncomputable abbrev f_impl_NodeOk.l1.u (n : Nat) := fun (p : tyH × Int × Int × Int × Int × tyF × tyH × tyS × List Int × Int) => f_impl_NodeOk.l1 n p.1 p.2.1 p.2.2.1 p.2.2.2.1 p.2.2.2.2.1 p.2.2.2.2.2.1 p.2.2.2.2.2.2.1 p.2.2.2.2.2.2.2.1 p.2.2.2.2.2.2.2.2.1 p.2.2.2.2.2.2.2.2.2
noncomputable def f_impl_NodeOk.l1.c : LoopCon := ⟨2142, 4, [0, 1, 4, 7, 8], ⟨[(0, bN R5), (1, .func 122 [.ptr 1022 0]), (4, i0), (7, i0), (8, i0)], [(1006, .box [i0, .bor (some 1) R4 [], .bor (some 2) R5 [], .bor (some 3) R7 [], .bor (some 4) R1 []]), (1022, .box [i0])], 2142⟩, [(.sl R5), iI, iI, iI, iI, (.sl R4), (.sl R5), (.sl R7), (.sl R1), iI], [⟨.ret, [4], ⟨[(4, i0)], [(1006, .box [i0, .bor (some 1) R4 [], .bor (some 2) R5 [], .bor (some 3) R7 [], .bor (some 4) R1 []]), (1022, .box [i0])], 2142⟩, [iI, iI, (.sl R4), (.sl R5), (.sl R7), (.sl R1), iI]⟩, ⟨.exit 0, [4], ⟨[(4, i0)], [(1006, .box [i0, .bor (some 1) R4 [], .bor (some 2) R5 [], .bor (some 3) R7 [], .bor (some 4) R1 []]), (1022, .box [i0])], 2142⟩, [iI, iI, (.sl R4), (.sl R5), (.sl R7), (.sl R1), iI]⟩], f_impl_NodeOk.l1.u N⟩
noncomputable abbrev f_impl_NodeOk.l2.u (n : Nat) := fun (p : tyS × Int × Int × Int × Int × tyF × tyH × tyS × List Int × Int) => f_impl_NodeOk.l2 n p.1 p.2.1 p.2.2.1 p.2.2.2.1 p.2.2.2.2.1 p.2.2.2.2.2.1 p.2.2.2.2.2.2.1 p.2.2.2.2.2.2.2.1 p.2.2.2.2.2.2.2.2.1 p.2.2.2.2.2.2.2.2.2
noncomputable def f_impl_NodeOk.l2.c : LoopCon := ⟨2238, 4, [0, 1, 4, 7, 8], ⟨[(0, bN R7), (1, .func 125 []), (4, i0), (7, i0), (8, i0)], [(1006, .box [i0, .bor (some 1) R4 [], .bor (some 2) R5 [], .bor (some 3) R7 [], .bor (some 4) R1 []]), (1022, .box [i0])], 2238⟩, [(.sl R7), iI, iI, iI, iI, (.sl R4), (.sl R5), (.sl R7), (.sl R1), iI], [⟨.ret, [4], ⟨[(4, i0)], [(1006, .box [i0, .bor (some 1) R4 [], .bor (some 2) R5 [], .bor (some 3) R7 [], .bor (some 4) R1 []]), (1022, .box [i0])], 2238⟩, [iI, iI, (.sl R4), (.sl R5), (.sl R7), (.sl R1), iI]⟩, ⟨.exit 0, [4], ⟨[(4, i0)], [(1006, .box [i0, .bor (some 1) R4 [], .bor (some 2) R5 [], .bor (some 3) R7 [], .bor (some 4) R1 []]), (1022, .box [i0])], 2238⟩, [iI, iI, (.sl R4), (.sl R5), (.sl R7), (.sl R1), iI]⟩], f_impl_NodeOk.l2.u N⟩
noncomputable abbrev f_impl_NodeOk.l3.u (n : Nat) := fun (p : List Int × Int × Int × Int × Int × tyF × tyH × tyS × List Int × Int) => f_impl_NodeOk.l3 n p.1 p.2.1 p.2.2.1 p.2.2.2.1 p.2.2.2.2.1 p.2.2.2.2.2.1 p.2.2.2.2.2.2.1 p.2.2.2.2.2.2.2.1 p.2.2.2.2.2.2.2.2.1 p.2.2.2.2.2.2.2.2.2
noncomputable def f_impl_NodeOk.l3.c : LoopCon := ⟨2334, 4, [0, 1, 4, 7, 8], ⟨[(0, bN R1), (1, .func 128 []), (4, i0), (7, i0), (8, i0)], [(1006, .box [i0, .bor (some 1) R4 [], .bor (some 2) R5 [], .bor (some 3) R7 [], .bor (some 4) R1 []]), (1022, .box [i0])], 2334⟩, [(.sl R1), iI, iI, iI, iI, (.sl R4), (.sl R5), (.sl R7), (.sl R1), iI], [⟨.ret, [4], ⟨[(4, i0)], [(1006, .box [i0, .bor (some 1) R4 [], .bor (some 2) R5 [], .bor (some 3) R7 [], .bor (some 4) R1 []]), (1022, .box [i0])], 2334⟩, [iI, iI, (.sl R4), (.sl R5), (.sl R7), (.sl R1), iI]⟩, ⟨.exit 0, [4], ⟨[(4, i0)], [(1006, .box [i0, .bor (some 1) R4 [], .bor (some 2) R5 [], .bor (some 3) R7 [], .bor (some 4) R1 []]), (1022, .box [i0])], 2334⟩, [iI, iI, (.sl R4), (.sl R5), (.sl R7), (.sl R1), iI]⟩], f_impl_NodeOk.l3.u N⟩
noncomputable abbrev f_impl_NodeOk.l4.u (n : Nat) := fun (p : List Int × Int × Int × Int × Int × tyF × tyH × tyS × List Int × Int) => f_impl_NodeOk.l4 n p.1 p.2.1 p.2.2.1 p.2.2.2.1 p.2.2.2.2.1 p.2.2.2.2.2.1 p.2.2.2.2.2.2.1 p.2.2.2.2.2.2.2.1 p.2.2.2.2.2.2.2.2.1 p.2.2.2.2.2.2.2.2.2
noncomputable def f_impl_NodeOk.l4.c : LoopCon := ⟨2350, 4, [0, 1, 4, 7, 8], ⟨[(0, bN R1), (1, .func 128 []), (4, i0), (7, i0), (8, i0)], [(1006, .box [i0, .bor (some 1) R4 [], .bor (some 2) R5 [], .bor (some 3) R7 [], .bor (some 4) R1 []]), (1022, .box [i0])], 2350⟩, [(.sl R1), iI, iI, iI, iI, (.sl R4), (.sl R5), (.sl R7), (.sl R1), iI], [⟨.ret, [4], ⟨[(4, i0)], [(1006, .box [i0, .bor (some 1) R4 [], .bor (some 2) R5 [], .bor (some 3) R7 [], .bor (some 4) R1 []]), (1022, .box [i0])], 2350⟩, [iI, iI, (.sl R4), (.sl R5), (.sl R7), (.sl R1), iI]⟩, ⟨.exit 0, [4], ⟨[(4, i0)], [(1006, .box [i0, .bor (some 1) R4 [], .bor (some 2) R5 [], .bor (some 3) R7 [], .bor (some 4) R1 []]), (1022, .box [i0])], 2350⟩, [iI, iI, (.sl R4), (.sl R5), (.sl R7), (.sl R1), iI]⟩], f_impl_NodeOk.l4.u N⟩
noncomputable abbrev f_impl_NodeOk.l5.u (n : Nat) := fun (p : tyS × Int × Int × Int × Int × tyF × tyH × tyS × List Int × Int) => f_impl_NodeOk.l5 n p.1 p.2.1 p.2.2.1 p.2.2.2.1 p.2.2.2.2.1 p.2.2.2.2.2.1 p.2.2.2.2.2.2.1 p.2.2.2.2.2.2.2.1 p.2.2.2.2.2.2.2.2.1 p.2.2.2.2.2.2.2.2.2
noncomputable def f_impl_NodeOk.l5.c : LoopCon := ⟨2254, 4, [0, 1, 4, 7, 8], ⟨[(0, bN R7), (1, .func 125 []), (4, i0), (7, i0), (8, i0)], [(1006, .box [i0, .bor (some 1) R4 [], .bor (some 2) R5 [], .bor (some 3) R7 [], .bor (some 4) R1 []]), (1022, .box [i0])], 2254⟩, [(.sl R7), iI, iI, iI, iI, (.sl R4), (.sl R5), (.sl R7), (.sl R1), iI], [⟨.ret, [4], ⟨[(4, i0)], [(1006, .box [i0, .bor (some 1) R4 [], .bor (some 2) R5 [], .bor (some 3) R7 [], .bor (some 4) R1 []]), (1022, .box [i0])], 2254⟩, [iI, iI, (.sl R4), (.sl R5), (.sl R7), (.sl R1), iI]⟩, ⟨.exit 0, [4], ⟨[(4, i0)], [(1006, .box [i0, .bor (some 1) R4 [], .bor (some 2) R5 [], .bor (some 3) R7 [], .bor (some 4) R1 []]), (1022, .box [i0])], 2254⟩, [iI, iI, (.sl R4), (.sl R5), (.sl R7), (.sl R1), iI]⟩], f_impl_NodeOk.l5.u N⟩
noncomputable abbrev f_impl_NodeOk.l6.u (n : Nat) := fun (p : List Int × Int × Int × Int × Int × tyF × tyH × tyS × List Int × Int) => f_impl_NodeOk.l6 n p.1 p.2.1 p.2.2.1 p.2.2.2.1 p.2.2.2.2.1 p.2.2.2.2.2.1 p.2.2.2.2.2.2.1 p.2.2.2.2.2.2.2.1 p.2.2.2.2.2.2.2.2.1 p.2.2.2.2.2.2.2.2.2
noncomputable def f_impl_NodeOk.l6.c : LoopCon := ⟨2366, 4, [0, 1, 4, 7, 8], ⟨[(0, bN R1), (1, .func 128 []), (4, i0), (7, i0), (8, i0)], [(1006, .box [i0, .bor (some 1) R4 [], .bor (some 2) R5 [], .bor (some 3) R7 [], .bor (some 4) R1 []]), (1022, .box [i0])], 2366⟩, [(.sl R1), iI, iI, iI, iI, (.sl R4), (.sl R5), (.sl R7), (.sl R1), iI], [⟨.ret, [4], ⟨[(4, i0)], [(1006, .box [i0, .bor (some 1) R4 [], .bor (some 2) R5 [], .bor (some 3) R7 [], .bor (some 4) R1 []]), (1022, .box [i0])], 2366⟩, [iI, iI, (.sl R4), (.sl R5), (.sl R7), (.sl R1), iI]⟩, ⟨.exit 0, [4], ⟨[(4, i0)], [(1006, .box [i0, .bor (some 1) R4 [], .bor (some 2) R5 [], .bor (some 3) R7 [], .bor (some 4) R1 []]), (1022, .box [i0])], 2366⟩, [iI, iI, (.sl R4), (.sl R5), (.sl R7), (.sl R1), iI]⟩], f_impl_NodeOk.l6.u N⟩
noncomputable abbrev f_impl_NodeOk.l7.u (n : Nat) := fun (p : tyH × Int × Int × Int × Int × tyF × tyH × tyS × List Int × Int) => f_impl_NodeOk.l7 n p.1 p.2.1 p.2.2.1 p.2.2.2.1 p.2.2.2.2.1 p.2.2.2.2.2.1 p.2.2.2.2.2.2.1 p.2.2.2.2.2.2.2.1 p.2.2.2.2.2.2.2.2.1 p.2.2.2.2.2.2.2.2.2
noncomputable def f_impl_NodeOk.l7.c : LoopCon := ⟨2158, 4, [0, 1, 4, 7, 8], ⟨[(0, bN R5), (1, .func 122 [.ptr 1022 0]), (4, i0), (7, i0), (8, i0)], [(1006, .box [i0, .bor (some 1) R4 [], .bor (some 2) R5 [], .bor (some 3) R7 [], .bor (some 4) R1 []]), (1022, .box [i0])], 2158⟩, [(.sl R5), iI, iI, iI, iI, (.sl R4), (.sl R5), (.sl R7), (.sl R1), iI], [⟨.ret, [4], ⟨[(4, i0)], [(1006, .box [i0, .bor (some 1) R4 [], .bor (some 2) R5 [], .bor (some 3) R7 [], .bor (some 4) R1 []]), (1022, .box [i0])], 2158⟩, [iI, iI, (.sl R4), (.sl R5), (.sl R7), (.sl R1), iI]⟩, ⟨.exit 0, [4], ⟨[(4, i0)], [(1006, .box [i0, .bor (some 1) R4 [], .bor (some 2) R5 [], .bor (some 3) R7 [], .bor (some 4) R1 []]), (1022, .box [i0])], 2158⟩, [iI, iI, (.sl R4), (.sl R5), (.sl R7), (.sl R1), iI]⟩], f_impl_NodeOk.l7.u N⟩
noncomputable abbrev f_impl_NodeOk.l8.u (n : Nat) := fun (p : tyS × Int × Int × Int × Int × tyF × tyH × tyS × List Int × Int) => f_impl_NodeOk.l8 n p.1 p.2.1 p.2.2.1 p.2.2.2.1 p.2.2.2.2.1 p.2.2.2.2.2.1 p.2.2.2.2.2.2.1 p.2.2.2.2.2.2.2.1 p.2.2.2.2.2.2.2.2.1 p.2.2.2.2.2.2.2.2.2
noncomputable def f_impl_NodeOk.l8.c : LoopCon := ⟨2270, 4, [0, 1, 4, 7, 8], ⟨[(0, bN R7), (1, .func 125 []), (4, i0), (7, i0), (8, i0)], [(1006, .box [i0, .bor (some 1) R4 [], .bor (some 2) R5 [], .bor (some 3) R7 [], .bor (some 4) R1 []]), (1022, .box [i0])], 2270⟩, [(.sl R7), iI, iI, iI, iI, (.sl R4), (.sl R5), (.sl R7), (.sl R1), iI], [⟨.ret, [4], ⟨[(4, i0)], [(1006, .box [i0, .bor (some 1) R4 [], .bor (some 2) R5 [], .bor (some 3) R7 [], .bor (some 4) R1 []]), (1022, .box [i0])], 2270⟩, [iI, iI, (.sl R4), (.sl R5), (.sl R7), (.sl R1), iI]⟩, ⟨.exit 0, [4], ⟨[(4, i0)], [(1006, .box [i0, .bor (some 1) R4 [], .bor (some 2) R5 [], .bor (some 3) R7 [], .bor (some 4) R1 []]), (1022, .box [i0])], 2270⟩, [iI, iI, (.sl R4), (.sl R5), (.sl R7), (.sl R1), iI]⟩], f_impl_NodeOk.l8.u N⟩
noncomputable abbrev f_impl_NodeOk.l9.u (n : Nat) := fun (p : List Int × Int × Int × Int × Int × tyF × tyH × tyS × List Int × Int) => f_impl_NodeOk.l9 n p.1 p.2.1 p.2.2.1 p.2.2.2.1 p.2.2.2.2.1 p.2.2.2.2.2.1 p.2.2.2.2.2.2.1 p.2.2.2.2.2.2.2.1 p.2.2.2.2.2.2.2.2.1 p.2.2.2.2.2.2.2.2.2
noncomputable def f_impl_NodeOk.l9.c : LoopCon := ⟨2382, 4, [0, 1, 4, 7, 8], ⟨[(0, bN R1), (1, .func 128 []), (4, i0), (7, i0), (8, i0)], [(1006, .box [i0, .bor (some 1) R4 [], .bor (some 2) R5 [], .bor (some 3) R7 [], .bor (some 4) R1 []]), (1022, .box [i0])], 2382⟩, [(.sl R1), iI, iI, iI, iI, (.sl R4), (.sl R5), (.sl R7), (.sl R1), iI], [⟨.ret, [4], ⟨[(4, i0)], [(1006, .box [i0, .bor (some 1) R4 [], .bor (some 2) R5 [], .bor (some 3) R7 [], .bor (some 4) R1 []]), (1022, .box [i0])], 2382⟩, [iI, iI, (.sl R4), (.sl R5), (.sl R7), (.sl R1), iI]⟩, ⟨.exit 0, [4], ⟨[(4, i0)], [(1006, .box [i0, .bor (some 1) R4 [], .bor (some 2) R5 [], .bor (some 3) R7 [], .bor (some 4) R1 []]), (1022, .box [i0])], 2382⟩, [iI, iI, (.sl R4), (.sl R5), (.sl R7), (.sl R1), iI]⟩], f_impl_NodeOk.l9.u N⟩
noncomputable abbrev K47 : Cons := [(100, C100), (119, C119), (122, C122), (125, C125), (128, C128)]
noncomputable abbrev L47 : List (Nat × Loops) := [(185, [(2, f_impl_NodeOk.l0.c)]), (186, [(2, f_impl_NodeOk.l1.c), (2, f_impl_NodeOk.l7.c)]), (189, [(2, f_impl_NodeOk.l2.c), (2, f_impl_NodeOk.l5.c), (2, f_impl_NodeOk.l8.c)]), (192, [(2, f_impl_NodeOk.l3.c), (2, f_impl_NodeOk.l4.c), (2, f_impl_NodeOk.l6.c), (2, f_impl_NodeOk.l9.c)])]
abbrev Q47 : List (Nat × List (Int × Nat) × Nat) := []
noncomputable abbrev X47 : Nat → Ctx := ctxOf tb K47 L47 Q47
theorem f_impl_NodeOk.l0.ok : ∀ n p, f_impl_NodeOk.l0.u n p = iterD (roundOf fs X47 4 185 2 true f_impl_NodeOk.l0.c) n p :=
 iter_of (l := f_impl_NodeOk.l0.u) (fun _ => rfl) (fun n p => by kernel_rfl)
theorem f_impl_NodeOk.l1.ok : ∀ n p, f_impl_NodeOk.l1.u n p = iterD (roundOf fs X47 4 186 2 true f_impl_NodeOk.l1.c) n p :=
 iter_of (l := f_impl_NodeOk.l1.u) (fun _ => rfl) (fun n p => by kernel_rfl)
theorem f_impl_NodeOk.l2.ok : ∀ n p, f_impl_NodeOk.l2.u n p = iterD (roundOf fs X47 4 189 2 true f_impl_NodeOk.l2.c) n p :=
 iter_of (l := f_impl_NodeOk.l2.u) (fun _ => rfl) (fun n p => by kernel_rfl)
theorem f_impl_NodeOk.l3.ok : ∀ n p, f_impl_NodeOk.l3.u n p = iterD (roundOf fs X47 4 192 2 true f_impl_NodeOk.l3.c) n p :=
 iter_of (l := f_impl_NodeOk.l3.u) (fun _ => rfl) (fun n p => by kernel_rfl)
theorem f_impl_NodeOk.l4.ok : ∀ n p, f_impl_NodeOk.l4.u n p = iterD (roundOf fs X47 4 192 2 true f_impl_NodeOk.l4.c) n p :=
 iter_of (l := f_impl_NodeOk.l4.u) (fun _ => rfl) (fun n p => by kernel_rfl)
theorem f_impl_NodeOk.l5.ok : ∀ n p, f_impl_NodeOk.l5.u n p = iterD (roundOf fs X47 4 189 2 true f_impl_NodeOk.l5.c) n p :=
 iter_of (l := f_impl_NodeOk.l5.u) (fun _ => rfl) (fun n p => by kernel_rfl)
theorem f_impl_NodeOk.l6.ok : ∀ n p, f_impl_NodeOk.l6.u n p = iterD (roundOf fs X47 4 192 2 true f_impl_NodeOk.l6.c) n p :=
 iter_of (l := f_impl_NodeOk.l6.u) (fun _ => rfl) (fun n p => by kernel_rfl)
theorem f_impl_NodeOk.l7.ok : ∀ n p, f_impl_NodeOk.l7.u n p = iterD (roundOf fs X47 4 186 2 true f_impl_NodeOk.l7.c) n p :=
 iter_of (l := f_impl_NodeOk.l7.u) (fun _ => rfl) (fun n p => by kernel_rfl)
theorem f_impl_NodeOk.l8.ok : ∀ n p, f_impl_NodeOk.l8.u n p = iterD (roundOf fs X47 4 189 2 true f_impl_NodeOk.l8.c) n p :=
 iter_of (l := f_impl_NodeOk.l8.u) (fun _ => rfl) (fun n p => by kernel_rfl)
theorem f_impl_NodeOk.l9.ok : ∀ n p, f_impl_NodeOk.l9.u n p = iterD (roundOf fs X47 4 192 2 true f_impl_NodeOk.l9.c) n p :=
 iter_of (l := f_impl_NodeOk.l9.u) (fun _ => rfl) (fun n p => by kernel_rfl)
theorem E47 : ∀ x, funRun fs X47 6 47 C47 x = C47.fn x := fun x => by kernel_rfl
theorem B47 : ConB Tryz.prog 47 C47 := ConB.make FS MIX TY (cons := K47) (L := L47) (ptrs := Q47) ⟨S100, S119, S122, S125, S128, trivial⟩ trivial ⟨⟨⟨N, fun p => f_impl_NodeOk.l0.ok N p⟩, trivial⟩, ⟨⟨N, fun p => f_impl_NodeOk.l1.ok N p⟩, ⟨N, fun p => f_impl_NodeOk.l7.ok N p⟩, trivial⟩, ⟨⟨N, fun p => f_impl_NodeOk.l2.ok N p⟩, ⟨N, fun p => f_impl_NodeOk.l5.ok N p⟩, ⟨N, fun p => f_impl_NodeOk.l8.ok N p⟩, trivial⟩, ⟨⟨N, fun p => f_impl_NodeOk.l3.ok N p⟩, ⟨N, fun p => f_impl_NodeOk.l4.ok N p⟩, ⟨N, fun p => f_impl_NodeOk.l6.ok N p⟩, ⟨N, fun p => f_impl_NodeOk.l9.ok N p⟩, trivial⟩, trivial⟩ rfl rfl E47
theorem S47 : ConS Tryz.prog 47 C47 := B47.call rfl
noncomputable def f_impl_PacketOk (x0 : Int) (x1 : Int) (x2 : Bool) (x3 : Int) (x4 : Int) (x5 : Int) (x6 : Bool) (x7 : List Int) (x8 : Int) : Option (Bool) :=
 (f_impl_isOf x0 x8).bind fun y0 =>
 bif (!y0) then
 some false
 else
 (f_impl_isOf x1 x8).bind fun y1 =>
 bif (!y1) then
 some false
 else
 (f_impl_isSeq x3).bind fun y2 =>
 bif (!y2) then
 some false
 else
 bif x2 then
 bif (decide (x4 = (0 : Int))) then
 bif (decide (x5 = (0 : Int))) then
 bif (!x6) then
 some (decide ((x7.length : Int) = (0 : Int)))
 else
 some false
 else
 some false
 else
 some false
 else
 (f_impl_MsgOk x4 x5 x6 x7).bind fun y3 =>
 some y3
noncomputable def C143 : Con := ⟨[(.B, true, [iI, iI, .bool, iI, iI, iI, .bool, (.sl R1)]), (.B, false, [iI])], [(false, [.bool])], [iI, iI, .bool, iI, iI, iI, .bool, (.sl R1), iI], [.bool], fun (p : Int × Int × Bool × Int × Int × Int × Bool × List Int × Int) => f_impl_PacketOk p.1 p.2.1 p.2.2.1 p.2.2.2.1 p.2.2.2.2.1 p.2.2.2.2.2.1 p.2.2.2.2.2.2.1 p.2.2.2.2.2.2.2.1 p.2.2.2.2.2.2.2.2⟩
noncomputable abbrev K143 : Cons := [(100, C100), (110, C110), (129, C129)]
noncomputable abbrev L143 : List (Nat × Loops) := []
abbrev Q143 : List (Nat × List (Int × Nat) × Nat) := []
noncomputable abbrev X143 : Nat → Ctx := ctxOf tb K143 L143 Q143
theorem E143 : ∀ x, funRun fs X143 6 143 C143 x = C143.fn x := fun x => by kernel_rfl
theorem B143 : ConB Tryz.prog 143 C143 := ConB.make FS MIX TY (cons := K143) (L := L143) (ptrs := Q143) ⟨S100, S110, S129, trivial⟩ trivial trivial rfl rfl E143
theorem S143 : ConS Tryz.prog 143 C143 := B143.call rfl
noncomputable def f_impl_WorldOk_1 (x0 : Int) (x1 : Int) (x2 : Bool) (x3 : Int) (x4 : Int) (x5 : Int) (x6 : Bool) (x7 : List Int) (x8 : Int) (x9 : tyN) (x10 : tyP) : Option (Bool) :=
 (f_impl_PacketOk x0 x1 x2 x3 x4 x5 x6 x7 x8).bind fun y0 =>
 some (!y0)
noncomputable def C142 : Con := ⟨[(.B, true, [iI, iI, .bool, iI, iI, iI, .bool, (.sl R1)]), (.Q, false, [iI, (.sl R8), (.sl R9)])], [(false, [.bool])], [iI, iI, .bool, iI, iI, iI, .bool, (.sl R1), iI, (.sl R8), (.sl R9)], [.bool], fun (p : Int × Int × Bool × Int × Int × Int × Bool × List Int × Int × tyN × tyP) => f_impl_WorldOk_1 p.1 p.2.1 p.2.2.1 p.2.2.2.1 p.2.2.2.2.1 p.2.2.2.2.2.1 p.2.2.2.2.2.2.1 p.2.2.2.2.2.2.2.1 p.2.2.2.2.2.2.2.2.1 p.2.2.2.2.2.2.2.2.2.1 p.2.2.2.2.2.2.2.2.2.2⟩
noncomputable abbrev K142 : Cons := [(143, C143)]
noncomputable abbrev L142 : List (Nat × Loops) := []
abbrev Q142 : List (Nat × List (Int × Nat) × Nat) := []
noncomputable abbrev X142 : Nat → Ctx := ctxOf tb K142 L142 Q142
theorem E142 : ∀ x, funG fs X142 6 142 C142 x = C142.fn x := fun x => by kernel_rfl
theorem B142 : ConG Tryz.prog 142 C142 := ConG.make FS MIX TY (cons := K142) (L := L142) (ptrs := Q142) ⟨S143, trivial⟩ trivial trivial rfl (by kernel_rfl) E142
theorem S142 : ConS Tryz.prog 142 C142 := B142.call (by kernel_rfl)
noncomputable def f_impl_WorldOk.l1 : Nat → tyP → Int → Int → Int → Int → tyN → tyP → Option ((Int × Int × tyN × tyP) ⊕ (Int × Int × tyN × tyP))
 | 0, _, _, _, _, _, _, _ => none
 | n + 1, p0, p1, p2, p3, p4, p5, p6 =>
 bif (decide (p3 < p2)) then
 bif ((decide ((0 : Int) ≤ p3)) && (decide (p3 < (p0.length : Int)))) then
 (f_impl_WorldOk_1 ((p0.getD p3.toNat (0, 0, false, 0, 0, 0, false, [])).1) ((p0.getD p3.toNat (0, 0, false, 0, 0, 0, false, [])).2.1) ((p0.getD p3.toNat (0, 0, false, 0, 0, 0, false, [])).2.2.1) ((p0.getD p3.toNat (0, 0, false, 0, 0, 0, false, [])).2.2.2.1) ((p0.getD p3.toNat (0, 0, false, 0, 0, 0, false, [])).2.2.2.2.1) ((p0.getD p3.toNat (0, 0, false, 0, 0, 0, false, [])).2.2.2.2.2.1) ((p0.getD p3.toNat (0, 0, false, 0, 0, 0, false, [])).2.2.2.2.2.2.1) ((p0.getD p3.toNat (0, 0, false, 0, 0, 0, false, [])).2.2.2.2.2.2.2) p4 p5 p6).bind fun y7 =>
 bif y7 then
 some (.inl (p3, p4, p5, p6))
 else
 f_impl_WorldOk.l1 n p0 p1 p2 (IntKind.wrap .i64 (p3 + (1 : Int))) p4 p5 p6
 else none
 else
 some (.inr (p1, p4, p5, p6))
noncomputable def f_impl_WorldOk.l0 : Nat → Bool → tyN → Int → Int → Int → tyN → tyP → Option ((Bool) ⊕ (Bool × Int × tyN × tyP))
 | 0, _, _, _, _, _, _, _ => none
 | n + 1, p0, p1, p2, p3, p4, p5, p6 =>
 bif (decide (p3 < p2)) then
 bif ((decide ((0 : Int) ≤ p3)) && (decide (p3 < (p1.length : Int)))) then
 (f_impl_NodeOk ((p1.getD p3.toNat (0, [], [], [], [])).1) ((p1.getD p3.toNat (0, [], [], [], [])).2.1) ((p1.getD p3.toNat (0, [], [], [], [])).2.2.1) ((p1.getD p3.toNat (0, [], [], [], [])).2.2.2.1) ((p1.getD p3.toNat (0, [], [], [], [])).2.2.2.2) p4).bind fun y7 =>
 bif (!y7) then
 some (.inl false)
 else
 bif (!(decide (((p1.getD p3.toNat (0, [], [], [], [])).1) = p3))) then
 some (.inl false)
 else
 f_impl_WorldOk.l0 n p0 p1 p2 (IntKind.wrap .i64 (p3 + (1 : Int))) p4 p5 p6
 else none
 else
 some (.inr (p0, p4, p5, p6))
noncomputable def f_impl_WorldOk (x0 : Int) (x1 : tyN) (x2 : tyP) : Option (Bool) :=
 (f_impl_from x0 1 4).bind fun y0 =>
 bif (!y0) then
 some false
 else
 bif (!(decide ((x1.length : Int) = x0))) then
 some false
 else
 bif (decide ((40 : Int) < (x2.length : Int))) then
 some false
 else
 (f_impl_WorldOk.l0 N false x1 (x1.length : Int) 0 x0 x1 x2).bind fun r1 =>
 cs r1 (fun a2 =>
 some a2) (fun b3 =>
 (f_impl_WorldOk.l1 N b3.2.2.2 0 (b3.2.2.2.length : Int) 0 b3.2.1 b3.2.2.1 b3.2.2.2).bind fun r4 =>
 cs r4 (fun a5 =>
 some (!(decide ((0 : Int) ≤ a5.1)))) (fun b6 =>
 some true))
noncomputable def C64 : Con := ⟨[(.B, true, [iI, (.sl R8), (.sl R9)])], [(false, [.bool])], [iI, (.sl R8), (.sl R9)], [.bool], fun (p : Int × tyN × tyP) => f_impl_WorldOk p.1 p.2.1 p.2.2⟩
noncomputable abbrev f_impl_WorldOk.l0.u (n : Nat) := fun (p : Bool × tyN × Int × Int × Int × tyN × tyP) => f_impl_WorldOk.l0 n p.1 p.2.1 p.2.2.1 p.2.2.2.1 p.2.2.2.2.1 p.2.2.2.2.2.1 p.2.2.2.2.2.2
noncomputable def f_impl_WorldOk.l0.c : LoopCon := ⟨1000, 6, [1, 2, 24, 25, 26], ⟨[(1, .ptr 1000 0), (2, .bool false), (24, bN R8), (25, i0), (26, i0)], [(1000, .box [i0, bN R8, bN R9])], 1001⟩, [.bool, (.sl R8), iI, iI, iI, (.sl R8), (.sl R9)], [⟨.ret, [2], ⟨[(2, .bool false)], [], 1000⟩, [.bool]⟩, ⟨.exit 0, [1, 2], ⟨[(1, .ptr 1000 0), (2, .bool false)], [(1000, .box [i0, bN R8, bN R9])], 1001⟩, [.bool, iI, (.sl R8), (.sl R9)]⟩], f_impl_WorldOk.l0.u N⟩
noncomputable abbrev f_impl_WorldOk.l1.u (n : Nat) := fun (p : tyP × Int × Int × Int × Int × tyN × tyP) => f_impl_WorldOk.l1 n p.1 p.2.1 p.2.2.1 p.2.2.2.1 p.2.2.2.2.1 p.2.2.2.2.2.1 p.2.2.2.2.2.2
noncomputable def f_impl_WorldOk.l1.c : LoopCon := ⟨1193, 4, [0, 1, 4, 7, 8], ⟨[(0, bN R9), (1, .func 142 [.ptr 1000 0]), (4, i0), (7, i0), (8, i0)], [(1000, .box [i0, bN R8, bN R9])], 1193⟩, [(.sl R9), iI, iI, iI, iI, (.sl R8), (.sl R9)], [⟨.ret, [4], ⟨[(4, i0)], [(1000, .box [i0, bN R8, bN R9])], 1193⟩, [iI, iI, (.sl R8), (.sl R9)]⟩, ⟨.exit 0, [4], ⟨[(4, i0)], [(1000, .box [i0, bN R8, bN R9])], 1193⟩, [iI, iI, (.sl R8), (.sl R9)]⟩], f_impl_WorldOk.l1.u N⟩
noncomputable abbrev K64 : Cons := [(47, C47), (140, C140), (142, C142)]
noncomputable abbrev L64 : List (Nat × Loops) := [(64, [(4, f_impl_WorldOk.l0.c)]), (193, [(2, f_impl_WorldOk.l1.c)])]
abbrev Q64 : List (Nat × List (Int × Nat) × Nat) := []
noncomputable abbrev X64 : Nat → Ctx := ctxOf tb K64 L64 Q64
theorem f_impl_WorldOk.l0.ok : ∀ n p, f_impl_WorldOk.l0.u n p = iterD (roundOf fs X64 6 64 4 false f_impl_WorldOk.l0.c) n p :=
 iter_of (l := f_impl_WorldOk.l0.u) (fun _ => rfl) (fun n p => by kernel_rfl)
theorem f_impl_WorldOk.l1.ok : ∀ n p, f_impl_WorldOk.l1.u n p = iterD (roundOf fs X64 4 193 2 true f_impl_WorldOk.l1.c) n p :=
 iter_of (l := f_impl_WorldOk.l1.u) (fun _ => rfl) (fun n p => by kernel_rfl)
theorem E64 : ∀ x, funRun fs X64 6 64 C64 x = C64.fn x := fun x => by kernel_rfl
theorem B64 : ConB Tryz.prog 64 C64 := ConB.make FS MIX TY (cons := K64) (L := L64) (ptrs := Q64) ⟨S47, S140, S142, trivial⟩ trivial ⟨⟨⟨N, fun p => f_impl_WorldOk.l0.ok N p⟩, trivial⟩, ⟨⟨N, fun p => f_impl_WorldOk.l1.ok N p⟩, trivial⟩, trivial⟩ rfl rfl E64
theorem S64 : ConS Tryz.prog 64 C64 := B64.call rfl
noncomputable def f_slices_Clone_int_int (x0 : List Int) : Option (List Int) := bif Nat.blt (0 + x0.length) 17592186044416 then some x0 else none
noncomputable def C146 : Con := ⟨[(.B, false, [(.sl R1)])], [(false, [(.sl R1)])], [(.sl R1)], [(.sl R1)], f_slices_Clone_int_int⟩
noncomputable abbrev X146 : Nat → Ctx := ctxOf tb [] [] []
theorem E146 : ∀ x : List R1.den, bodyRun fs X146 6 146 C146 [] [] [.bor (some 1000) R1 x] [] = f_slices_Clone_int_int x := fun x => by kernel_rfl
theorem Z146 : bodyRun fs X146 6 146 C146 [] [] [.nil (some R1)] [] = f_slices_Clone_int_int ([] : List R1.den) := by kernel_rfl
theorem B146 : ConB Tryz.prog 146 C146 := ConB.copy FS MIX TY (cons := []) (L := []) (ptrs := []) trivial trivial trivial rfl E146 Z146
theorem S146 : ConS Tryz.prog 146 C146 := B146.call rfl
noncomputable def f_impl_copyMsg (x0 : Int) (x1 : Int) (x2 : Bool) (x3 : List Int) : Option (Int × Int × Bool × List Int) :=
 (f_slices_Clone_int_int x3).bind fun y0 =>
 some (x0, x1, x2, y0)
noncomputable def C163 : Con := ⟨[(.B, true, [iI, iI, .bool, (.sl R1)])], [(true, [iI, iI, .bool, (.sl R1)])], [iI, iI, .bool, (.sl R1)], [iI, iI, .bool, (.sl R1)], fun (p : Int × Int × Bool × List Int) => f_impl_copyMsg p.1 p.2.1 p.2.2.1 p.2.2.2⟩
noncomputable abbrev K163 : Cons := [(146, C146)]
noncomputable abbrev L163 : List (Nat × Loops) := []
abbrev Q163 : List (Nat × List (Int × Nat) × Nat) := []
noncomputable abbrev X163 : Nat → Ctx := ctxOf tb K163 L163 Q163
theorem E163 : ∀ x, funRun fs X163 6 163 C163 x = C163.fn x := fun x => by kernel_rfl
theorem B163 : ConB Tryz.prog 163 C163 := ConB.make FS MIX TY (cons := K163) (L := L163) (ptrs := Q163) ⟨S146, trivial⟩ trivial trivial rfl rfl E163
theorem S163 : ConS Tryz.prog 163 C163 := B163.call rfl
noncomputable def f_impl_coming.l0 : Nat → Int → Int → tyM → Int → Int → Int → tyN → tyP → Int → tyM → tyM → Option (tyM)
 | 0, _, _, _, _, _, _, _, _, _, _, _ => none
 | n + 1, p0, p1, p2, p3, p4, p5, p6, p7, p8, p9, p10 =>
 bif (decide (p4 < p3)) then
 bif ((decide ((0 : Int) ≤ p4)) && (decide (p4 < (p2.length : Int)))) then
 bif ((decide ((0 : Int) ≤ p1)) && (decide (p1 < (p6.length : Int)))) then
 bif ((decide ((0 : Int) ≤ p0)) && (decide (p0 < (((p6.getD p1.toNat (0, [], [], [], [])).2.2.2.2).length : Int)))) then
 bif (decide ((((p6.getD p1.toNat (0, [], [], [], [])).2.2.2.2).getD p0.toNat 0) ≤ (IntKind.wrap .i64 (p8 + p4)))) then
 (f_impl_copyMsg ((p2.getD p4.toNat (0, 0, false, [])).1) ((p2.getD p4.toNat (0, 0, false, [])).2.1) ((p2.getD p4.toNat (0, 0, false, [])).2.2.1) ((p2.getD p4.toNat (0, 0, false, [])).2.2.2)).bind fun y11 =>
 bif (Nat.blt (p10.length + ([(y11.1, y11.2.1, y11.2.2.1, y11.2.2.2)] : tyM).length) 2932031007402) then
 (some ((p10 ++ ([(y11.1, y11.2.1, y11.2.2.1, y11.2.2.2)] : tyM)) : tyM)).bind fun z12 =>
 f_impl_coming.l0 n p0 p1 p2 p3 (IntKind.wrap .i64 (p4 + (1 : Int))) p5 p6 p7 p8 p9 z12
 else none
 else
 f_impl_coming.l0 n p0 p1 p2 p3 (IntKind.wrap .i64 (p4 + (1 : Int))) p5 p6 p7 p8 p9 p10
 else none
 else none
 else none
 else
 some p10
noncomputable def f_impl_coming (x0 : Int) (x1 : tyN) (x2 : tyP) (x3 : Int) (x4 : Int) : Option (tyM) :=
 bif ((decide ((0 : Int) ≤ x3)) && (decide (x3 < (x1.length : Int)))) then
 bif ((decide ((0 : Int) ≤ x4)) && (decide (x4 < (((x1.getD x3.toNat (0, [], [], [], [])).2.2.2.1).length : Int)))) then
 (f_impl_coming.l0 N x3 x4 ((((x1.getD x3.toNat (0, [], [], [], [])).2.2.2.1).getD x4.toNat (0, [])).2) (((((x1.getD x3.toNat (0, [], [], [], [])).2.2.2.1).getD x4.toNat (0, [])).2).length : Int) 0 x0 x1 x2 ((((x1.getD x3.toNat (0, [], [], [], [])).2.2.2.1).getD x4.toNat (0, [])).1) ((((x1.getD x3.toNat (0, [], [], [], [])).2.2.2.1).getD x4.toNat (0, [])).2) ([] : tyM)).bind fun r0 =>
 some r0
 else none
 else none
noncomputable def C101 : Con := ⟨[(.B, true, [iI, (.sl R8), (.sl R9)]), (.B, false, [iI]), (.B, false, [iI])], [(false, [(.sl R6)])], [iI, (.sl R8), (.sl R9), iI, iI], [(.sl R6)], fun (p : Int × tyN × tyP × Int × Int) => f_impl_coming p.1 p.2.1 p.2.2.1 p.2.2.2.1 p.2.2.2.2⟩
noncomputable abbrev f_impl_coming.l0.u (n : Nat) := fun (p : Int × Int × tyM × Int × Int × Int × tyN × tyP × Int × tyM × tyM) => f_impl_coming.l0 n p.1 p.2.1 p.2.2.1 p.2.2.2.1 p.2.2.2.2.1 p.2.2.2.2.2.1 p.2.2.2.2.2.2.1 p.2.2.2.2.2.2.2.1 p.2.2.2.2.2.2.2.2.1 p.2.2.2.2.2.2.2.2.2.1 p.2.2.2.2.2.2.2.2.2.2
noncomputable def f_impl_coming.l0.c : LoopCon := ⟨1000, 6, [1, 2, 3, 6, 7, 8, 22, 23, 24], ⟨[(1, i0), (2, i0), (3, .ptr 1000 0), (6, .nil (some R6)), (7, .ptr 1001 0), (8, .ref 1002 [] none), (22, bN R6), (23, i0), (24, i0)], [(1000, .box [i0, bN R8, bN R9]), (1001, .box [i0, bN R6]), (1002, .row R6 [])], 1003⟩, [iI, iI, (.sl R6), iI, iI, iI, (.sl R8), (.sl R9), iI, (.sl R6), (.sl R6)], [⟨.exit 0, [6, 8], ⟨[(6, .nil (some R6)), (8, .ref 1000 [] none)], [(1000, .row R6 [])], 1001⟩, [(.sl R6)]⟩], f_impl_coming.l0.u N⟩
noncomputable abbrev K101 : Cons := [(163, C163)]
noncomputable abbrev L101 : List (Nat × Loops) := [(101, [(4, f_impl_coming.l0.c)])]
abbrev Q101 : List (Nat × List (Int × Nat) × Nat) := []
noncomputable abbrev X101 : Nat → Ctx := ctxOf tb K101 L101 Q101
theorem f_impl_coming.l0.ok : ∀ n p, f_impl_coming.l0.u n p = iterD (roundOf fs X101 6 101 4 false f_impl_coming.l0.c) n p :=
 iter_of (l := f_impl_coming.l0.u) (fun _ => rfl) (fun n p => by kernel_rfl)
theorem E101 : ∀ x, funRun fs X101 6 101 C101 x = C101.fn x := fun x => by kernel_rfl
theorem B101 : ConB Tryz.prog 101 C101 := ConB.make FS MIX TY (cons := K101) (L := L101) (ptrs := Q101) ⟨S163, trivial⟩ trivial ⟨⟨⟨N, fun p => f_impl_coming.l0.ok N p⟩, trivial⟩, trivial⟩ rfl rfl E101
theorem S101 : ConS Tryz.prog 101 C101 := B101.call rfl
noncomputable def f_slices_Reverse_impl_Msg_impl_Msg (x0 : tyM) : Option tyM := bif Nat.ble x0.length 9223372036854775807 then some x0.reverse else none
noncomputable def C147 : Con := ⟨[(.I, false, [(.sl R6)])], [], [(.sl R6)], [(.sl R6)], f_slices_Reverse_impl_Msg_impl_Msg⟩
theorem B147 : ConG Tryz.prog 147 C147 := ConG.reverse (r := R6) Tryz.reverse147 Tryz.isAgg76 Tryz.sizeOf76 (FS 147 Tryz.f147 rfl).enters
theorem S147 : ConS Tryz.prog 147 C147 := B147.call (by kernel_rfl)
noncomputable def f_impl_truth.l1 : Nat → Int → Int → Int → tyM → Option ((Int × tyM) ⊕ (Unit))
 | 0, _, _, _, _ => none
 | n + 1, p0, p1, p2, p3 =>
 bif (decide (p2 < p1)) then
 bif ((decide ((0 : Int) ≤ p2)) && (decide (p2 < (p3.length : Int)))) then
 bif (decide (((p3.getD p2.toNat (0, 0, false, [])).1) = (7 : Int))) then
 bif (decide (((p3.getD p2.toNat (0, 0, false, [])).2.1) = p0)) then
 some (.inl (p2, p3))
 else
 f_impl_truth.l1 n p0 p1 (IntKind.wrap .i64 (p2 + (1 : Int))) p3
 else
 f_impl_truth.l1 n p0 p1 (IntKind.wrap .i64 (p2 + (1 : Int))) p3
 else none
 else
 some (.inr ())
noncomputable def f_impl_truth.l0 : Nat → Int → Int → Int → Int → Int → tyN → tyP → (List Int) → Int → (List Bool) → Bool → Int → Bool → Int → tyW → tyM → Option ((Int × tyM) ⊕ (Int × Int × Int × tyN × tyP × List Int × Int × List Bool × Bool × Int × Bool × Int × tyW))
 | 0, _, _, _, _, _, _, _, _, _, _, _, _, _, _, _, _ => none
 | n + 1, p0, p1, p2, p3, p4, p5, p6, p7, p8, p9, p10, p11, p12, p13, p14, p15 =>
 bif (decide (p3 < p2)) then
 bif ((decide ((0 : Int) ≤ p3)) && (decide (p3 < (p15.length : Int)))) then
 bif (decide (((p15.getD p3.toNat (0, 0, false, [])).1) = (3 : Int))) then
 bif (p15.getD p3.toNat (0, 0, false, [])).2.2.1 then
 bif (decide (((p15.getD p3.toNat (0, 0, false, [])).2.1) = p0)) then
 some (.inl (p3, p15))
 else
 f_impl_truth.l0 n p0 p1 p2 (IntKind.wrap .i64 (p3 + (1 : Int))) p4 p5 p6 p7 p8 p9 p10 p11 p12 p13 p14 p15
 else
 f_impl_truth.l0 n p0 p1 p2 (IntKind.wrap .i64 (p3 + (1 : Int))) p4 p5 p6 p7 p8 p9 p10 p11 p12 p13 p14 p15
 else
 f_impl_truth.l0 n p0 p1 p2 (IntKind.wrap .i64 (p3 + (1 : Int))) p4 p5 p6 p7 p8 p9 p10 p11 p12 p13 p14 p15
 else none
 else
 some (.inr (p0, p1, p4, p5, p6, p7, p8, p9, p10, p11, p12, p13, p14))
noncomputable def f_impl_truth (x0 : Int) (x1 : tyN) (x2 : tyP) (x3 : Int) : Option (List Int) :=
 bif (decide (x0 = (0 : Int))) then none else
 bif ((decide ((0 : Int) ≤ (Int.tmod x3 x0))) && (decide ((Int.tmod x3 x0) < (x1.length : Int)))) then
 bif ((decide ((0 : Int) ≤ x3)) && (decide (x3 < (((x1.getD (Int.tmod x3 x0).toNat (0, [], [], [], [])).2.2.1).length : Int)))) then
 bif (decide (((((x1.getD (Int.tmod x3 x0).toNat (0, [], [], [], [])).2.2.1).getD x3.toNat ([], 0, [], false, 0, false, 0, [])).2.1) < (0 : Int))) then
 (f_slices_Clone_int_int ((((x1.getD (Int.tmod x3 x0).toNat (0, [], [], [], [])).2.2.1).getD x3.toNat ([], 0, [], false, 0, false, 0, [])).1)).bind fun y0 =>
 some y0
 else
 bif ((decide ((0 : Int) ≤ ((((x1.getD (Int.tmod x3 x0).toNat (0, [], [], [], [])).2.2.1).getD x3.toNat ([], 0, [], false, 0, false, 0, [])).2.1))) && (decide (((((x1.getD (Int.tmod x3 x0).toNat (0, [], [], [], [])).2.2.1).getD x3.toNat ([], 0, [], false, 0, false, 0, [])).2.1) < (x1.length : Int)))) then
 bif ((decide ((0 : Int) ≤ x3)) && (decide (x3 < (((x1.getD ((((x1.getD (Int.tmod x3 x0).toNat (0, [], [], [], [])).2.2.1).getD x3.toNat ([], 0, [], false, 0, false, 0, [])).2.1).toNat (0, [], [], [], [])).2.1).length : Int)))) then
 bif (decide (((((x1.getD ((((x1.getD (Int.tmod x3 x0).toNat (0, [], [], [], [])).2.2.1).getD x3.toNat ([], 0, [], false, 0, false, 0, [])).2.1).toNat (0, [], [], [], [])).2.1).getD x3.toNat (0, [], false)).1) = (2 : Int))) then
 (f_slices_Clone_int_int ((((x1.getD ((((x1.getD (Int.tmod x3 x0).toNat (0, [], [], [], [])).2.2.1).getD x3.toNat ([], 0, [], false, 0, false, 0, [])).2.1).toNat (0, [], [], [], [])).2.1).getD x3.toNat (0, [], false)).2.1)).bind fun y1 =>
 some y1
 else
 (f_impl_coming x0 x1 x2 (Int.tmod x3 x0) ((((x1.getD (Int.tmod x3 x0).toNat (0, [], [], [], [])).2.2.1).getD x3.toNat ([], 0, [], false, 0, false, 0, [])).2.1)).bind fun y2 =>
 (f_slices_Reverse_impl_Msg_impl_Msg y2).bind fun y3 =>
 (some (y3 : tyM)).bind fun z4 =>
 (f_impl_truth.l0 N x3 (Int.tmod x3 x0) (z4.length : Int) 0 x0 x1 x2 ((((x1.getD (Int.tmod x3 x0).toNat (0, [], [], [], [])).2.2.1).getD x3.toNat ([], 0, [], false, 0, false, 0, [])).1) ((((x1.getD (Int.tmod x3 x0).toNat (0, [], [], [], [])).2.2.1).getD x3.toNat ([], 0, [], false, 0, false, 0, [])).2.1) ((((x1.getD (Int.tmod x3 x0).toNat (0, [], [], [], [])).2.2.1).getD x3.toNat ([], 0, [], false, 0, false, 0, [])).2.2.1) ((((x1.getD (Int.tmod x3 x0).toNat (0, [], [], [], [])).2.2.1).getD x3.toNat ([], 0, [], false, 0, false, 0, [])).2.2.2.1) ((((x1.getD (Int.tmod x3 x0).toNat (0, [], [], [], [])).2.2.1).getD x3.toNat ([], 0, [], false, 0, false, 0, [])).2.2.2.2.1) ((((x1.getD (Int.tmod x3 x0).toNat (0, [], [], [], [])).2.2.1).getD x3.toNat ([], 0, [], false, 0, false, 0, [])).2.2.2.2.2.1) ((((x1.getD (Int.tmod x3 x0).toNat (0, [], [], [], [])).2.2.1).getD x3.toNat ([], 0, [], false, 0, false, 0, [])).2.2.2.2.2.2.1) ((((x1.getD (Int.tmod x3 x0).toNat (0, [], [], [], [])).2.2.1).getD x3.toNat ([], 0, [], false, 0, false, 0, [])).2.2.2.2.2.2.2) z4).bind fun r5 =>
 cs r5 (fun a6 =>
 some ((a6.2.getD a6.1.toNat (0, 0, false, [])).2.2.2)) (fun b7 =>
 (f_impl_coming b7.2.2.1 b7.2.2.2.1 b7.2.2.2.2.1 b7.2.2.2.2.2.2.1 b7.2.1).bind fun y8 =>
 (f_slices_Reverse_impl_Msg_impl_Msg y8).bind fun y9 =>
 (some (y9 : tyM)).bind fun z10 =>
 (f_impl_truth.l1 N b7.1 (z10.length : Int) 0 z10).bind fun r11 =>
 cs r11 (fun a12 =>
 some ((a12.2.getD a12.1.toNat (0, 0, false, [])).2.2.2)) (fun b13 =>
 some []))
 else none
 else none
 else none
 else none
noncomputable def C71 : Con := ⟨[(.B, true, [iI, (.sl R8), (.sl R9)]), (.B, false, [iI])], [(false, [(.sl R1)])], [iI, (.sl R8), (.sl R9), iI], [(.sl R1)], fun (p : Int × tyN × tyP × Int) => f_impl_truth p.1 p.2.1 p.2.2.1 p.2.2.2⟩
noncomputable abbrev f_impl_truth.l0.u (n : Nat) := fun (p : Int × Int × Int × Int × Int × tyN × tyP × List Int × Int × List Bool × Bool × Int × Bool × Int × tyW × tyM) => f_impl_truth.l0 n p.1 p.2.1 p.2.2.1 p.2.2.2.1 p.2.2.2.2.1 p.2.2.2.2.2.1 p.2.2.2.2.2.2.1 p.2.2.2.2.2.2.2.1 p.2.2.2.2.2.2.2.2.1 p.2.2.2.2.2.2.2.2.2.1 p.2.2.2.2.2.2.2.2.2.2.1 p.2.2.2.2.2.2.2.2.2.2.2.1 p.2.2.2.2.2.2.2.2.2.2.2.2.1 p.2.2.2.2.2.2.2.2.2.2.2.2.2.1 p.2.2.2.2.2.2.2.2.2.2.2.2.2.2.1 p.2.2.2.2.2.2.2.2.2.2.2.2.2.2.2
noncomputable def f_impl_truth.l0.c : LoopCon := ⟨1000, 6, [1, 2, 4, 5, 6, 56, 57, 58], ⟨[(1, i0), (2, .ptr 1000 0), (4, .nil (some R1)), (5, i0), (6, .ptr 1001 0), (56, .ref 1002 [] none), (57, i0), (58, i0)], [(1000, .box [i0, bN R8, bN R9]), (1001, .box [bN R1, i0, bN R2, .bool false, i0, .bool false, i0, bN R3]), (1002, .row R6 [])], 1003⟩, [iI, iI, iI, iI, iI, (.sl R8), (.sl R9), (.sl R1), iI, (.sl R2), .bool, iI, .bool, iI, (.sl R3), (.sl R6)], [⟨.ret, [4], ⟨[(4, .ref 1000 [(0, 3)] none)], [(1000, .row R6 [])], 1001⟩, [iI, (.sl R6)]⟩, ⟨.exit 0, [1, 2, 4, 5, 6], ⟨[(1, i0), (2, .ptr 1000 0), (4, .nil (some R1)), (5, i0), (6, .ptr 1001 0)], [(1000, .box [i0, bN R8, bN R9]), (1001, .box [bN R1, i0, bN R2, .bool false, i0, .bool false, i0, bN R3])], 1002⟩, [iI, iI, iI, (.sl R8), (.sl R9), (.sl R1), iI, (.sl R2), .bool, iI, .bool, iI, (.sl R3)]⟩], f_impl_truth.l0.u N⟩
noncomputable abbrev f_impl_truth.l1.u (n : Nat) := fun (p : Int × Int × Int × tyM) => f_impl_truth.l1 n p.1 p.2.1 p.2.2.1 p.2.2.2
noncomputable def f_impl_truth.l1.c : LoopCon := ⟨1000, 6, [1, 4, 85, 86, 87], ⟨[(1, i0), (4, .nil (some R1)), (85, .ref 1000 [] none), (86, i0), (87, i0)], [(1000, .row R6 [])], 1001⟩, [iI, iI, iI, (.sl R6)], [⟨.ret, [4], ⟨[(4, .ref 1000 [(0, 3)] none)], [(1000, .row R6 [])], 1001⟩, [iI, (.sl R6)]⟩, ⟨.exit 2, [4], ⟨[(4, .nil (some R1))], [], 1000⟩, []⟩], f_impl_truth.l1.u N⟩
noncomputable abbrev K71 : Cons := [(101, C101), (146, C146), (147, C147)]
noncomputable abbrev L71 : List (Nat × Loops) := [(71, [(11, f_impl_truth.l0.c), (19, f_impl_truth.l1.c)])]
abbrev Q71 : List (Nat × List (Int × Nat) × Nat) := []
noncomputable abbrev X71 : Nat → Ctx := ctxOf tb K71 L71 Q71
theorem f_impl_truth.l0.ok : ∀ n p, f_impl_truth.l0.u n p = iterD (roundOf fs X71 6 71 11 false f_impl_truth.l0.c) n p :=
 iter_of (l := f_impl_truth.l0.u) (fun _ => rfl) (fun n p => by kernel_rfl)
theorem f_impl_truth.l1.ok : ∀ n p, f_impl_truth.l1.u n p = iterD (roundOf fs X71 6 71 19 false f_impl_truth.l1.c) n p :=
 iter_of (l := f_impl_truth.l1.u) (fun _ => rfl) (fun n p => by kernel_rfl)
theorem E71 : ∀ x, funRun fs X71 6 71 C71 x = C71.fn x := fun x => by kernel_rfl
theorem B71 : ConB Tryz.prog 71 C71 := ConB.make FS MIX TY (cons := K71) (L := L71) (ptrs := Q71) ⟨S101, S146, S147, trivial⟩ trivial ⟨⟨⟨N, fun p => f_impl_truth.l0.ok N p⟩, ⟨N, fun p => f_impl_truth.l1.ok N p⟩, trivial⟩, trivial⟩ rfl rfl E71
theorem S71 : ConS Tryz.prog 71 C71 := B71.call rfl
noncomputable def f_impl_Truth (x0 : Int) (x1 : tyN) (x2 : tyP) (x3 : Int) : Option (List Int) :=
 (f_impl_WorldOk x0 x1 x2).bind fun y0 =>
 bif (!y0) then
 some []
 else
 (f_impl_isPage x3).bind fun y1 =>
 bif (!y1) then
 some []
 else
 (f_impl_truth x0 x1 x2 x3).bind fun y2 =>
 some y2
noncomputable def C33 : Con := ⟨[(.B, true, [iI, (.sl R8), (.sl R9)]), (.B, false, [iI])], [(false, [(.sl R1)])], [iI, (.sl R8), (.sl R9), iI], [(.sl R1)], fun (p : Int × tyN × tyP × Int) => f_impl_Truth p.1 p.2.1 p.2.2.1 p.2.2.2⟩
noncomputable abbrev K33 : Cons := [(64, C64), (65, C65), (71, C71)]
noncomputable abbrev L33 : List (Nat × Loops) := []
abbrev Q33 : List (Nat × List (Int × Nat) × Nat) := []
noncomputable abbrev X33 : Nat → Ctx := ctxOf tb K33 L33 Q33
theorem E33 : ∀ x, funRun fs X33 6 33 C33 x = C33.fn x := fun x => by kernel_rfl
theorem B33 : ConB Tryz.prog 33 C33 := ConB.make FS MIX TY (cons := K33) (L := L33) (ptrs := Q33) ⟨S64, S65, S71, trivial⟩ trivial trivial rfl rfl E33
theorem S33 : ConS Tryz.prog 33 C33 := B33.call rfl
noncomputable def f_spec_DrawComing.l0 : Nat → (List Int) → Int → Int → Int → Option (List Int × Int × Int)
 | 0, _, _, _, _ => none
 | n + 1, p0, p1, p2, p3 =>
 bif (decide (p2 < (p0.length : Int))) then
 bif (decide (p2 < (4000 : Int))) then
 bif ((decide ((0 : Int) ≤ p2)) && (decide (p2 < (p0.length : Int)))) then
 f_spec_DrawComing.l0 n p0 (bitI .and .i64 (IntKind.wrap .i64 ((IntKind.wrap .i64 ((IntKind.wrap .i64 (p1 * (131 : Int))) + (IntKind.wrap .i64 ((p0.getD p2.toNat 0))))) + (7 : Int))) (1073741823 : Int)) (IntKind.wrap .i64 (p2 + (1 : Int))) p3
 else none
 else
 some (p0, p1, p3)
 else
 some (p0, p1, p3)
noncomputable def f_spec_DrawComing (x0 : List Int) : Option (Int × tyN × tyP × Int × Int) :=
 (f_spec_DrawComing.l0 N x0 (IntKind.wrap .i64 ((20404 : Int) + (x0.length : Int))) 0 0).bind fun r0 =>
 (f_spec_l6Draw r0.1 0 r0.2.1).bind fun y1 =>
 (f_spec_l1Below r0.1 y1.2.2.2.1 y1.2.2.2.2 4).bind fun y2 =>
 (f_spec_l1Below r0.1 y2.2.1 y2.2.2 9).bind fun y3 =>
 (f_spec_l1Below r0.1 y3.2.1 y3.2.2 4).bind fun y4 =>
 some (y1.1, y1.2.1, y1.2.2.1, (IntKind.wrap .i64 (y2.1 - (IntKind.wrap .i64 (Int.tdiv y3.1 (8 : Int))))), y4.1)
noncomputable def C34 : Con := ⟨[(.B, false, [(.sl R0)])], [(true, [iI, (.sl R8), (.sl R9)]), (false, [iI]), (false, [iI])], [(.sl R0)], [iI, (.sl R8), (.sl R9), iI, iI], fun (p : List Int) => f_spec_DrawComing p⟩
noncomputable abbrev f_spec_DrawComing.l0.u (n : Nat) := fun (p : List Int × Int × Int × Int) => f_spec_DrawComing.l0 n p.1 p.2.1 p.2.2.1 p.2.2.2
noncomputable def f_spec_DrawComing.l0.c : LoopCon := ⟨1097, 5, [0, 3, 4], ⟨[(0, bN R0), (3, i0), (4, i0)], [(1001, .box [i0, .nil (some R8), .nil (some R9)])], 1097⟩, [(.sl R0), iI, iI, iI], [⟨.exit 0, [0, 3], ⟨[(0, bN R0), (3, i0)], [(1001, .box [i0, .nil (some R8), .nil (some R9)])], 1097⟩, [(.sl R0), iI, iI]⟩], f_spec_DrawComing.l0.u N⟩
noncomputable abbrev K34 : Cons := [(105, C105), (106, C106)]
noncomputable abbrev L34 : List (Nat × Loops) := [(104, [(3, f_spec_DrawComing.l0.c)])]
abbrev Q34 : List (Nat × List (Int × Nat) × Nat) := []
noncomputable abbrev X34 : Nat → Ctx := ctxOf tb K34 L34 Q34
theorem f_spec_DrawComing.l0.ok : ∀ n p, f_spec_DrawComing.l0.u n p = iterD (roundOf fs X34 5 104 3 true f_spec_DrawComing.l0.c) n p :=
 iter_of (l := f_spec_DrawComing.l0.u) (fun _ => rfl) (fun n p => by kernel_rfl)
theorem E34 : ∀ x, funRun fs X34 6 34 C34 x = C34.fn x := fun x => by kernel_rfl
theorem B34 : ConB Tryz.prog 34 C34 := ConB.make FS MIX TY (cons := K34) (L := L34) (ptrs := Q34) ⟨S105, S106, trivial⟩ trivial ⟨⟨⟨N, fun p => f_spec_DrawComing.l0.ok N p⟩, trivial⟩, trivial⟩ rfl rfl E34
theorem S34 : ConS Tryz.prog 34 C34 := B34.call rfl
noncomputable def f_impl_Coming (x0 : Int) (x1 : tyN) (x2 : tyP) (x3 : Int) (x4 : Int) : Option (tyM) :=
 (f_impl_WorldOk x0 x1 x2).bind fun y0 =>
 bif (!y0) then
 some []
 else
 (f_impl_isOf x3 x0).bind fun y1 =>
 bif (!y1) then
 some []
 else
 (f_impl_isOf x4 x0).bind fun y2 =>
 bif (!y2) then
 some []
 else
 (f_impl_coming x0 x1 x2 x3 x4).bind fun y3 =>
 some y3
noncomputable def C26 : Con := ⟨[(.B, true, [iI, (.sl R8), (.sl R9)]), (.B, false, [iI]), (.B, false, [iI])], [(false, [(.sl R6)])], [iI, (.sl R8), (.sl R9), iI, iI], [(.sl R6)], fun (p : Int × tyN × tyP × Int × Int) => f_impl_Coming p.1 p.2.1 p.2.2.1 p.2.2.2.1 p.2.2.2.2⟩
noncomputable abbrev K26 : Cons := [(64, C64), (100, C100), (101, C101)]
noncomputable abbrev L26 : List (Nat × Loops) := []
abbrev Q26 : List (Nat × List (Int × Nat) × Nat) := []
noncomputable abbrev X26 : Nat → Ctx := ctxOf tb K26 L26 Q26
theorem E26 : ∀ x, funRun fs X26 6 26 C26 x = C26.fn x := fun x => by kernel_rfl
theorem B26 : ConB Tryz.prog 26 C26 := ConB.make FS MIX TY (cons := K26) (L := L26) (ptrs := Q26) ⟨S64, S100, S101, trivial⟩ trivial trivial rfl rfl E26
theorem S26 : ConS Tryz.prog 26 C26 := B26.call rfl
noncomputable def f_spec_DrawAlone (x0 : List Int) : Option (Int × tyN × tyP × Int) :=
 (f_spec_DrawTruth x0).bind fun y0 =>
 some (y0.1, y0.2.1, y0.2.2.1, y0.2.2.2)
noncomputable def C35 : Con := ⟨[(.B, false, [(.sl R0)])], [(true, [iI, (.sl R8), (.sl R9)]), (false, [iI])], [(.sl R0)], [iI, (.sl R8), (.sl R9), iI], fun (p : List Int) => f_spec_DrawAlone p⟩
noncomputable abbrev K35 : Cons := [(32, C32)]
noncomputable abbrev L35 : List (Nat × Loops) := []
abbrev Q35 : List (Nat × List (Int × Nat) × Nat) := []
noncomputable abbrev X35 : Nat → Ctx := ctxOf tb K35 L35 Q35
theorem E35 : ∀ x, funRun fs X35 6 35 C35 x = C35.fn x := fun x => by kernel_rfl
theorem B35 : ConB Tryz.prog 35 C35 := ConB.make FS MIX TY (cons := K35) (L := L35) (ptrs := Q35) ⟨S32, trivial⟩ trivial trivial rfl rfl E35
theorem S35 : ConS Tryz.prog 35 C35 := B35.call rfl
noncomputable def f_spec_DrawSane.l0 : Nat → (List Int) → Int → Int → Int → Option (List Int × Int × Int)
 | 0, _, _, _, _ => none
 | n + 1, p0, p1, p2, p3 =>
 bif (decide (p2 < (p0.length : Int))) then
 bif (decide (p2 < (4000 : Int))) then
 bif ((decide ((0 : Int) ≤ p2)) && (decide (p2 < (p0.length : Int)))) then
 f_spec_DrawSane.l0 n p0 (bitI .and .i64 (IntKind.wrap .i64 ((IntKind.wrap .i64 ((IntKind.wrap .i64 (p1 * (131 : Int))) + (IntKind.wrap .i64 ((p0.getD p2.toNat 0))))) + (7 : Int))) (1073741823 : Int)) (IntKind.wrap .i64 (p2 + (1 : Int))) p3
 else none
 else
 some (p0, p1, p3)
 else
 some (p0, p1, p3)
noncomputable def f_spec_DrawSane (x0 : List Int) : Option (Int × tyN × tyP) :=
 (f_spec_DrawSane.l0 N x0 (IntKind.wrap .i64 ((20404 : Int) + (x0.length : Int))) 0 0).bind fun r0 =>
 (f_spec_l6Draw r0.1 0 r0.2.1).bind fun y1 =>
 some (y1.1, y1.2.1, y1.2.2.1)
noncomputable def C36 : Con := ⟨[(.B, false, [(.sl R0)])], [(true, [iI, (.sl R8), (.sl R9)])], [(.sl R0)], [iI, (.sl R8), (.sl R9)], fun (p : List Int) => f_spec_DrawSane p⟩
noncomputable abbrev f_spec_DrawSane.l0.u (n : Nat) := fun (p : List Int × Int × Int × Int) => f_spec_DrawSane.l0 n p.1 p.2.1 p.2.2.1 p.2.2.2
noncomputable def f_spec_DrawSane.l0.c : LoopCon := ⟨1081, 5, [0, 3, 4], ⟨[(0, bN R0), (3, i0), (4, i0)], [(1001, .box [i0, .nil (some R8), .nil (some R9)])], 1081⟩, [(.sl R0), iI, iI, iI], [⟨.exit 0, [0, 3], ⟨[(0, bN R0), (3, i0)], [(1001, .box [i0, .nil (some R8), .nil (some R9)])], 1081⟩, [(.sl R0), iI, iI]⟩], f_spec_DrawSane.l0.u N⟩
noncomputable abbrev K36 : Cons := [(105, C105)]
noncomputable abbrev L36 : List (Nat × Loops) := [(104, [(3, f_spec_DrawSane.l0.c)])]
abbrev Q36 : List (Nat × List (Int × Nat) × Nat) := []
noncomputable abbrev X36 : Nat → Ctx := ctxOf tb K36 L36 Q36
theorem f_spec_DrawSane.l0.ok : ∀ n p, f_spec_DrawSane.l0.u n p = iterD (roundOf fs X36 5 104 3 true f_spec_DrawSane.l0.c) n p :=
 iter_of (l := f_spec_DrawSane.l0.u) (fun _ => rfl) (fun n p => by kernel_rfl)
theorem E36 : ∀ x, funRun fs X36 6 36 C36 x = C36.fn x := fun x => by kernel_rfl
theorem B36 : ConB Tryz.prog 36 C36 := ConB.make FS MIX TY (cons := K36) (L := L36) (ptrs := Q36) ⟨S105, trivial⟩ trivial ⟨⟨⟨N, fun p => f_spec_DrawSane.l0.ok N p⟩, trivial⟩, trivial⟩ rfl rfl E36
theorem S36 : ConS Tryz.prog 36 C36 := B36.call rfl
noncomputable def f_spec_l7Coming.l0 : Nat → Int → Int → tyM → Int → tyM → Option (tyM)
 | 0, _, _, _, _, _ => none
 | n + 1, p0, p1, p2, p3, p4 =>
 bif (decide (p1 < (p4.length : Int))) then
 bif (decide (p0 ≤ (IntKind.wrap .i64 (p3 + p1)))) then
 bif ((decide ((0 : Int) ≤ p1)) && (decide (p1 < (p4.length : Int)))) then
 (f_spec_l1Msg ((p4.getD p1.toNat (0, 0, false, [])).1) ((p4.getD p1.toNat (0, 0, false, [])).2.1) ((p4.getD p1.toNat (0, 0, false, [])).2.2.1) ((p4.getD p1.toNat (0, 0, false, [])).2.2.2)).bind fun y5 =>
 bif (Nat.blt (p2.length + ([(y5.1, y5.2.1, y5.2.2.1, y5.2.2.2)] : tyM).length) 2932031007402) then
 (some ((p2 ++ ([(y5.1, y5.2.1, y5.2.2.1, y5.2.2.2)] : tyM)) : tyM)).bind fun z6 =>
 f_spec_l7Coming.l0 n p0 (IntKind.wrap .i64 (p1 + (1 : Int))) z6 p3 p4
 else none
 else none
 else
 f_spec_l7Coming.l0 n p0 (IntKind.wrap .i64 (p1 + (1 : Int))) p2 p3 p4
 else
 some p2
noncomputable def f_spec_l7Coming (x0 : Int) (x1 : tyN) (x2 : tyP) (x3 : Int) (x4 : Int) : Option (tyM) :=
 bif ((decide ((0 : Int) ≤ x3)) && (decide (x3 < (x1.length : Int)))) then
 bif ((decide ((0 : Int) ≤ x4)) && (decide (x4 < (((x1.getD x3.toNat (0, [], [], [], [])).2.2.2.1).length : Int)))) then
 bif ((decide ((0 : Int) ≤ x4)) && (decide (x4 < (x1.length : Int)))) then
 bif ((decide ((0 : Int) ≤ x3)) && (decide (x3 < (((x1.getD x4.toNat (0, [], [], [], [])).2.2.2.2).length : Int)))) then
 (f_spec_l7Coming.l0 N (((x1.getD x4.toNat (0, [], [], [], [])).2.2.2.2).getD x3.toNat 0) 0 ([] : tyM) ((((x1.getD x3.toNat (0, [], [], [], [])).2.2.2.1).getD x4.toNat (0, [])).1) ((((x1.getD x3.toNat (0, [], [], [], [])).2.2.2.1).getD x4.toNat (0, [])).2)).bind fun r0 =>
 some r0
 else none
 else none
 else none
 else none
noncomputable def C99 : Con := ⟨[(.B, true, [iI, (.sl R8), (.sl R9)]), (.B, false, [iI]), (.B, false, [iI])], [(false, [(.sl R6)])], [iI, (.sl R8), (.sl R9), iI, iI], [(.sl R6)], fun (p : Int × tyN × tyP × Int × Int) => f_spec_l7Coming p.1 p.2.1 p.2.2.1 p.2.2.2.1 p.2.2.2.2⟩
noncomputable abbrev f_spec_l7Coming.l0.u (n : Nat) := fun (p : Int × Int × tyM × Int × tyM) => f_spec_l7Coming.l0 n p.1 p.2.1 p.2.2.1 p.2.2.2.1 p.2.2.2.2
noncomputable def f_spec_l7Coming.l0.c : LoopCon := ⟨1000, 6, [6, 7, 8, 9, 10], ⟨[(6, .nil (some R6)), (7, .ref 1000 [] none), (8, .ptr 1001 0), (9, i0), (10, i0)], [(1000, .row R6 []), (1001, .box [i0, bN R6])], 1002⟩, [iI, iI, (.sl R6), iI, (.sl R6)], [⟨.exit 0, [6, 7], ⟨[(6, .nil (some R6)), (7, .ref 1000 [] none)], [(1000, .row R6 [])], 1001⟩, [(.sl R6)]⟩], f_spec_l7Coming.l0.u N⟩
noncomputable abbrev K99 : Cons := [(154, C154)]
noncomputable abbrev L99 : List (Nat × Loops) := [(99, [(5, f_spec_l7Coming.l0.c)])]
abbrev Q99 : List (Nat × List (Int × Nat) × Nat) := []
noncomputable abbrev X99 : Nat → Ctx := ctxOf tb K99 L99 Q99
theorem f_spec_l7Coming.l0.ok : ∀ n p, f_spec_l7Coming.l0.u n p = iterD (roundOf fs X99 6 99 5 false f_spec_l7Coming.l0.c) n p :=
 iter_of (l := f_spec_l7Coming.l0.u) (fun _ => rfl) (fun n p => by kernel_rfl)
theorem E99 : ∀ x, funRun fs X99 6 99 C99 x = C99.fn x := fun x => by kernel_rfl
theorem B99 : ConB Tryz.prog 99 C99 := ConB.make FS MIX TY (cons := K99) (L := L99) (ptrs := Q99) ⟨S154, trivial⟩ trivial ⟨⟨⟨N, fun p => f_spec_l7Coming.l0.ok N p⟩, trivial⟩, trivial⟩ rfl rfl E99
theorem S99 : ConS Tryz.prog 99 C99 := B99.call rfl
noncomputable def f_spec_l7Last.l0 : Nat → tyM → Int → Int → Int → (List Int) → Option (List Int)
 | 0, _, _, _, _, _ => none
 | n + 1, p0, p1, p2, p3, p4 =>
 bif (decide (p3 < (p0.length : Int))) then
 bif ((decide ((0 : Int) ≤ p3)) && (decide (p3 < (p0.length : Int)))) then
 bif (decide (((p0.getD p3.toNat (0, 0, false, [])).1) = p1)) then
 bif (decide (((p0.getD p3.toNat (0, 0, false, [])).2.1) = p2)) then
 bif (p0.getD p3.toNat (0, 0, false, [])).2.2.1 then
 bif (Nat.blt (([] : List Int).length + ((p0.getD p3.toNat (0, 0, false, [])).2.2.2).length) 17592186044416) then
 (some ((([] : List Int) ++ ((p0.getD p3.toNat (0, 0, false, [])).2.2.2)) : List Int)).bind fun z5 =>
 f_spec_l7Last.l0 n p0 p1 p2 (IntKind.wrap .i64 (p3 + (1 : Int))) z5
 else none
 else
 bif (decide (p1 = (7 : Int))) then
 bif (Nat.blt (([] : List Int).length + ((p0.getD p3.toNat (0, 0, false, [])).2.2.2).length) 17592186044416) then
 (some ((([] : List Int) ++ ((p0.getD p3.toNat (0, 0, false, [])).2.2.2)) : List Int)).bind fun z6 =>
 f_spec_l7Last.l0 n p0 p1 p2 (IntKind.wrap .i64 (p3 + (1 : Int))) z6
 else none
 else
 f_spec_l7Last.l0 n p0 p1 p2 (IntKind.wrap .i64 (p3 + (1 : Int))) p4
 else
 f_spec_l7Last.l0 n p0 p1 p2 (IntKind.wrap .i64 (p3 + (1 : Int))) p4
 else
 f_spec_l7Last.l0 n p0 p1 p2 (IntKind.wrap .i64 (p3 + (1 : Int))) p4
 else none
 else
 some p4
noncomputable def f_spec_l7Last (x0 : tyM) (x1 : Int) (x2 : Int) : Option (List Int) :=
 (f_spec_l7Last.l0 N x0 x1 x2 0 ([] : List Int)).bind fun r0 =>
 some r0
noncomputable def C145 : Con := ⟨[(.B, false, [(.sl R6)]), (.B, false, [iI]), (.B, false, [iI])], [(false, [(.sl R1)])], [(.sl R6), iI, iI], [(.sl R1)], fun (p : tyM × Int × Int) => f_spec_l7Last p.1 p.2.1 p.2.2⟩
noncomputable abbrev f_spec_l7Last.l0.u (n : Nat) := fun (p : tyM × Int × Int × Int × List Int) => f_spec_l7Last.l0 n p.1 p.2.1 p.2.2.1 p.2.2.2.1 p.2.2.2.2
noncomputable def f_spec_l7Last.l0.c : LoopCon := ⟨1000, 6, [0, 1, 2, 6, 7, 8], ⟨[(0, bN R6), (1, i0), (2, i0), (6, .nil (some R1)), (7, .ref 1000 [] none), (8, i0)], [(1000, .row R1 [])], 1001⟩, [(.sl R6), iI, iI, iI, (.sl R1)], [⟨.exit 0, [6, 7], ⟨[(6, .nil (some R1)), (7, .ref 1000 [] none)], [(1000, .row R1 [])], 1001⟩, [(.sl R1)]⟩], f_spec_l7Last.l0.u N⟩
noncomputable abbrev K145 : Cons := []
noncomputable abbrev L145 : List (Nat × Loops) := [(145, [(3, f_spec_l7Last.l0.c)])]
abbrev Q145 : List (Nat × List (Int × Nat) × Nat) := []
noncomputable abbrev X145 : Nat → Ctx := ctxOf tb K145 L145 Q145
theorem f_spec_l7Last.l0.ok : ∀ n p, f_spec_l7Last.l0.u n p = iterD (roundOf fs X145 6 145 3 false f_spec_l7Last.l0.c) n p :=
 iter_of (l := f_spec_l7Last.l0.u) (fun _ => rfl) (fun n p => by kernel_rfl)
theorem E145 : ∀ x, funRun fs X145 6 145 C145 x = C145.fn x := fun x => by kernel_rfl
theorem B145 : ConB Tryz.prog 145 C145 := ConB.make FS MIX TY (cons := K145) (L := L145) (ptrs := Q145) trivial trivial ⟨⟨⟨N, fun p => f_spec_l7Last.l0.ok N p⟩, trivial⟩, trivial⟩ rfl rfl E145
theorem S145 : ConS Tryz.prog 145 C145 := B145.call rfl
noncomputable def f_spec_l7Truth (x0 : Int) (x1 : tyN) (x2 : tyP) (x3 : Int) : Option (List Int) :=
 bif (decide (x0 = (0 : Int))) then none else
 bif ((decide ((0 : Int) ≤ (Int.tmod x3 x0))) && (decide ((Int.tmod x3 x0) < (x1.length : Int)))) then
 bif ((decide ((0 : Int) ≤ x3)) && (decide (x3 < (((x1.getD (Int.tmod x3 x0).toNat (0, [], [], [], [])).2.2.1).length : Int)))) then
 bif (decide (((((x1.getD (Int.tmod x3 x0).toNat (0, [], [], [], [])).2.2.1).getD x3.toNat ([], 0, [], false, 0, false, 0, [])).2.1) < (0 : Int))) then
 bif (Nat.blt (([] : List Int).length + ((((x1.getD (Int.tmod x3 x0).toNat (0, [], [], [], [])).2.2.1).getD x3.toNat ([], 0, [], false, 0, false, 0, [])).1).length) 17592186044416) then
 (some ((([] : List Int) ++ ((((x1.getD (Int.tmod x3 x0).toNat (0, [], [], [], [])).2.2.1).getD x3.toNat ([], 0, [], false, 0, false, 0, [])).1)) : List Int)).bind fun z0 =>
 some z0
 else none
 else
 bif ((decide ((0 : Int) ≤ ((((x1.getD (Int.tmod x3 x0).toNat (0, [], [], [], [])).2.2.1).getD x3.toNat ([], 0, [], false, 0, false, 0, [])).2.1))) && (decide (((((x1.getD (Int.tmod x3 x0).toNat (0, [], [], [], [])).2.2.1).getD x3.toNat ([], 0, [], false, 0, false, 0, [])).2.1) < (x1.length : Int)))) then
 bif ((decide ((0 : Int) ≤ x3)) && (decide (x3 < (((x1.getD ((((x1.getD (Int.tmod x3 x0).toNat (0, [], [], [], [])).2.2.1).getD x3.toNat ([], 0, [], false, 0, false, 0, [])).2.1).toNat (0, [], [], [], [])).2.1).length : Int)))) then
 bif (decide (((((x1.getD ((((x1.getD (Int.tmod x3 x0).toNat (0, [], [], [], [])).2.2.1).getD x3.toNat ([], 0, [], false, 0, false, 0, [])).2.1).toNat (0, [], [], [], [])).2.1).getD x3.toNat (0, [], false)).1) = (2 : Int))) then
 bif (Nat.blt (([] : List Int).length + ((((x1.getD ((((x1.getD (Int.tmod x3 x0).toNat (0, [], [], [], [])).2.2.1).getD x3.toNat ([], 0, [], false, 0, false, 0, [])).2.1).toNat (0, [], [], [], [])).2.1).getD x3.toNat (0, [], false)).2.1).length) 17592186044416) then
 (some ((([] : List Int) ++ ((((x1.getD ((((x1.getD (Int.tmod x3 x0).toNat (0, [], [], [], [])).2.2.1).getD x3.toNat ([], 0, [], false, 0, false, 0, [])).2.1).toNat (0, [], [], [], [])).2.1).getD x3.toNat (0, [], false)).2.1)) : List Int)).bind fun z1 =>
 some z1
 else none
 else
 (f_spec_l7Coming x0 x1 x2 (Int.tmod x3 x0) ((((x1.getD (Int.tmod x3 x0).toNat (0, [], [], [], [])).2.2.1).getD x3.toNat ([], 0, [], false, 0, false, 0, [])).2.1)).bind fun y2 =>
 (f_spec_l7Last y2 3 x3).bind fun y3 =>
 bif (decide ((0 : Int) < (y3.length : Int))) then
 some y3
 else
 (f_spec_l7Coming x0 x1 x2 ((((x1.getD (Int.tmod x3 x0).toNat (0, [], [], [], [])).2.2.1).getD x3.toNat ([], 0, [], false, 0, false, 0, [])).2.1) (Int.tmod x3 x0)).bind fun y4 =>
 (f_spec_l7Last y4 7 x3).bind fun y5 =>
 some y5
 else none
 else none
 else none
 else none
noncomputable def C69 : Con := ⟨[(.B, true, [iI, (.sl R8), (.sl R9)]), (.B, false, [iI])], [(false, [(.sl R1)])], [iI, (.sl R8), (.sl R9), iI], [(.sl R1)], fun (p : Int × tyN × tyP × Int) => f_spec_l7Truth p.1 p.2.1 p.2.2.1 p.2.2.2⟩
noncomputable abbrev K69 : Cons := [(99, C99), (145, C145)]
noncomputable abbrev L69 : List (Nat × Loops) := []
abbrev Q69 : List (Nat × List (Int × Nat) × Nat) := []
noncomputable abbrev X69 : Nat → Ctx := ctxOf tb K69 L69 Q69
theorem E69 : ∀ x, funRun fs X69 6 69 C69 x = C69.fn x := fun x => by kernel_rfl
theorem B69 : ConB Tryz.prog 69 C69 := ConB.make FS MIX TY (cons := K69) (L := L69) (ptrs := Q69) ⟨S99, S145, trivial⟩ trivial trivial rfl rfl E69
theorem S69 : ConS Tryz.prog 69 C69 := B69.call rfl
noncomputable def f_spec_Truth (x0 : Int) (x1 : tyN) (x2 : tyP) (x3 : Int) : Option (List Int) :=
 (f_spec_WorldOk x0 x1 x2).bind fun y0 =>
 bif (!y0) then
 some ([] : List Int)
 else
 (f_spec_l1In x3 0 5).bind fun y1 =>
 bif (!y1) then
 some ([] : List Int)
 else
 (f_spec_l7Truth x0 x1 x2 x3).bind fun y2 =>
 some y2
noncomputable def C38 : Con := ⟨[(.B, true, [iI, (.sl R8), (.sl R9)]), (.B, false, [iI])], [(false, [(.sl R1)])], [iI, (.sl R8), (.sl R9), iI], [(.sl R1)], fun (p : Int × tyN × tyP × Int) => f_spec_Truth p.1 p.2.1 p.2.2.1 p.2.2.2⟩
noncomputable abbrev K38 : Cons := [(59, C59), (60, C60), (69, C69)]
noncomputable abbrev L38 : List (Nat × Loops) := []
abbrev Q38 : List (Nat × List (Int × Nat) × Nat) := []
noncomputable abbrev X38 : Nat → Ctx := ctxOf tb K38 L38 Q38
theorem E38 : ∀ x, funRun fs X38 6 38 C38 x = C38.fn x := fun x => by kernel_rfl
theorem B38 : ConB Tryz.prog 38 C38 := ConB.make FS MIX TY (cons := K38) (L := L38) (ptrs := Q38) ⟨S59, S60, S69, trivial⟩ trivial trivial rfl rfl E38
theorem S38 : ConS Tryz.prog 38 C38 := B38.call rfl
noncomputable def f_laws_sameInts.l0 : Nat → (List Int) → (List Int) → Bool → Int → Option ((Bool) ⊕ (Bool))
 | 0, _, _, _, _ => none
 | n + 1, p0, p1, p2, p3 =>
 bif (decide (p3 < (p0.length : Int))) then
 bif ((decide ((0 : Int) ≤ p3)) && (decide (p3 < (p0.length : Int)))) then
 bif ((decide ((0 : Int) ≤ p3)) && (decide (p3 < (p1.length : Int)))) then
 bif (!(decide ((p0.getD p3.toNat 0) = (p1.getD p3.toNat 0)))) then
 some (.inl false)
 else
 f_laws_sameInts.l0 n p0 p1 p2 (IntKind.wrap .i64 (p3 + (1 : Int)))
 else none
 else none
 else
 some (.inr p2)
noncomputable def f_laws_sameInts (x0 : List Int) (x1 : List Int) : Option (Bool) :=
 bif (!(decide ((x0.length : Int) = (x1.length : Int)))) then
 some false
 else
 (f_laws_sameInts.l0 N x0 x1 false 0).bind fun r0 =>
 cs r0 (fun a1 =>
 some a1) (fun b2 =>
 some true)
noncomputable def C37 : Con := ⟨[(.B, false, [(.sl R1)]), (.B, false, [(.sl R1)])], [(false, [.bool])], [(.sl R1), (.sl R1)], [.bool], fun (p : List Int × List Int) => f_laws_sameInts p.1 p.2⟩
noncomputable abbrev f_laws_sameInts.l0.u (n : Nat) := fun (p : List Int × List Int × Bool × Int) => f_laws_sameInts.l0 n p.1 p.2.1 p.2.2.1 p.2.2.2
noncomputable def f_laws_sameInts.l0.c : LoopCon := ⟨1000, 6, [0, 1, 4, 5], ⟨[(0, bN R1), (1, bN R1), (4, .bool false), (5, i0)], [], 1000⟩, [(.sl R1), (.sl R1), .bool, iI], [⟨.ret, [4], ⟨[(4, .bool false)], [], 1000⟩, [.bool]⟩, ⟨.exit 0, [4], ⟨[(4, .bool false)], [], 1000⟩, [.bool]⟩], f_laws_sameInts.l0.u N⟩
noncomputable abbrev K37 : Cons := []
noncomputable abbrev L37 : List (Nat × Loops) := [(37, [(4, f_laws_sameInts.l0.c)])]
abbrev Q37 : List (Nat × List (Int × Nat) × Nat) := []
noncomputable abbrev X37 : Nat → Ctx := ctxOf tb K37 L37 Q37
theorem f_laws_sameInts.l0.ok : ∀ n p, f_laws_sameInts.l0.u n p = iterD (roundOf fs X37 6 37 4 false f_laws_sameInts.l0.c) n p :=
 iter_of (l := f_laws_sameInts.l0.u) (fun _ => rfl) (fun n p => by kernel_rfl)
theorem E37 : ∀ x, funRun fs X37 6 37 C37 x = C37.fn x := fun x => by kernel_rfl
theorem B37 : ConB Tryz.prog 37 C37 := ConB.make FS MIX TY (cons := K37) (L := L37) (ptrs := Q37) trivial trivial ⟨⟨⟨N, fun p => f_laws_sameInts.l0.ok N p⟩, trivial⟩, trivial⟩ rfl rfl E37
theorem S37 : ConS Tryz.prog 37 C37 := B37.call rfl
noncomputable def f_spec_Coming (x0 : Int) (x1 : tyN) (x2 : tyP) (x3 : Int) (x4 : Int) : Option (tyM) :=
 (f_spec_WorldOk x0 x1 x2).bind fun y0 =>
 bif (!y0) then
 some ([] : tyM)
 else
 (f_spec_l1In x3 0 (IntKind.wrap .i64 (x0 - (1 : Int)))).bind fun y1 =>
 bif (!y1) then
 some ([] : tyM)
 else
 (f_spec_l1In x4 0 (IntKind.wrap .i64 (x0 - (1 : Int)))).bind fun y2 =>
 bif (!y2) then
 some ([] : tyM)
 else
 (f_spec_l7Coming x0 x1 x2 x3 x4).bind fun y3 =>
 some y3
noncomputable def C25 : Con := ⟨[(.B, true, [iI, (.sl R8), (.sl R9)]), (.B, false, [iI]), (.B, false, [iI])], [(false, [(.sl R6)])], [iI, (.sl R8), (.sl R9), iI, iI], [(.sl R6)], fun (p : Int × tyN × tyP × Int × Int) => f_spec_Coming p.1 p.2.1 p.2.2.1 p.2.2.2.1 p.2.2.2.2⟩
noncomputable abbrev K25 : Cons := [(59, C59), (60, C60), (99, C99)]
noncomputable abbrev L25 : List (Nat × Loops) := []
abbrev Q25 : List (Nat × List (Int × Nat) × Nat) := []
noncomputable abbrev X25 : Nat → Ctx := ctxOf tb K25 L25 Q25
theorem E25 : ∀ x, funRun fs X25 6 25 C25 x = C25.fn x := fun x => by kernel_rfl
theorem B25 : ConB Tryz.prog 25 C25 := ConB.make FS MIX TY (cons := K25) (L := L25) (ptrs := Q25) ⟨S59, S60, S99, trivial⟩ trivial trivial rfl rfl E25
theorem S25 : ConS Tryz.prog 25 C25 := B25.call rfl
noncomputable def f_impl_alone.l0 : Nat → Int → Bool → Int → Int → tyN → Int → Int → Option (Bool × Int × Int)
 | 0, _, _, _, _, _, _, _ => none
 | n + 1, p0, p1, p2, p3, p4, p5, p6 =>
 bif (decide (p6 < p5)) then
 bif ((decide ((0 : Int) ≤ p6)) && (decide (p6 < (p4.length : Int)))) then
 bif ((decide ((0 : Int) ≤ p0)) && (decide (p0 < (((p4.getD p6.toNat (0, [], [], [], [])).2.1).length : Int)))) then
 bif (decide (((((p4.getD p6.toNat (0, [], [], [], [])).2.1).getD p0.toNat (0, [], false)).1) = (2 : Int))) then
 f_impl_alone.l0 n p0 p1 (IntKind.wrap .i64 (p2 + (1 : Int))) (IntKind.wrap .i64 (p3 + (1 : Int))) p4 p5 (IntKind.wrap .i64 (p6 + (1 : Int)))
 else
 bif (decide (((((p4.getD p6.toNat (0, [], [], [], [])).2.1).getD p0.toNat (0, [], false)).1) = (1 : Int))) then
 f_impl_alone.l0 n p0 p1 (IntKind.wrap .i64 (p2 + (1 : Int))) p3 p4 p5 (IntKind.wrap .i64 (p6 + (1 : Int)))
 else
 f_impl_alone.l0 n p0 p1 p2 p3 p4 p5 (IntKind.wrap .i64 (p6 + (1 : Int)))
 else none
 else none
 else
 some (p1, p2, p3)
noncomputable def f_impl_alone (x0 : Int) (x1 : tyN) (x2 : tyP) (x3 : Int) : Option (Bool) :=
 (f_impl_alone.l0 N x3 false 0 0 x1 (x1.length : Int) 0).bind fun r0 =>
 bif (decide (r0.2.2 = (0 : Int))) then
 some true
 else
 some (decide (r0.2.1 = (1 : Int)))
noncomputable def C66 : Con := ⟨[(.B, true, [iI, (.sl R8), (.sl R9)]), (.B, false, [iI])], [(false, [.bool])], [iI, (.sl R8), (.sl R9), iI], [.bool], fun (p : Int × tyN × tyP × Int) => f_impl_alone p.1 p.2.1 p.2.2.1 p.2.2.2⟩
noncomputable abbrev f_impl_alone.l0.u (n : Nat) := fun (p : Int × Bool × Int × Int × tyN × Int × Int) => f_impl_alone.l0 n p.1 p.2.1 p.2.2.1 p.2.2.2.1 p.2.2.2.2.1 p.2.2.2.2.2.1 p.2.2.2.2.2.2
noncomputable def f_impl_alone.l0.c : LoopCon := ⟨1000, 6, [1, 4, 5, 6, 10, 11, 12], ⟨[(1, i0), (4, .bool false), (5, i0), (6, i0), (10, bN R8), (11, i0), (12, i0)], [], 1000⟩, [iI, .bool, iI, iI, (.sl R8), iI, iI], [⟨.exit 0, [4, 5, 6], ⟨[(4, .bool false), (5, i0), (6, i0)], [], 1000⟩, [.bool, iI, iI]⟩], f_impl_alone.l0.u N⟩
noncomputable abbrev K66 : Cons := []
noncomputable abbrev L66 : List (Nat × Loops) := [(66, [(3, f_impl_alone.l0.c)])]
abbrev Q66 : List (Nat × List (Int × Nat) × Nat) := []
noncomputable abbrev X66 : Nat → Ctx := ctxOf tb K66 L66 Q66
theorem f_impl_alone.l0.ok : ∀ n p, f_impl_alone.l0.u n p = iterD (roundOf fs X66 6 66 3 false f_impl_alone.l0.c) n p :=
 iter_of (l := f_impl_alone.l0.u) (fun _ => rfl) (fun n p => by kernel_rfl)
theorem E66 : ∀ x, funRun fs X66 6 66 C66 x = C66.fn x := fun x => by kernel_rfl
theorem B66 : ConB Tryz.prog 66 C66 := ConB.make FS MIX TY (cons := K66) (L := L66) (ptrs := Q66) trivial trivial ⟨⟨⟨N, fun p => f_impl_alone.l0.ok N p⟩, trivial⟩, trivial⟩ rfl rfl E66
theorem S66 : ConS Tryz.prog 66 C66 := B66.call rfl
noncomputable def f_impl_Alone (x0 : Int) (x1 : tyN) (x2 : tyP) (x3 : Int) : Option (Bool) :=
 (f_impl_WorldOk x0 x1 x2).bind fun y0 =>
 bif y0 then
 (f_impl_isPage x3).bind fun y1 =>
 bif y1 then
 (f_impl_alone x0 x1 x2 x3).bind fun y2 =>
 some y2
 else
 some false
 else
 some false
noncomputable def C14 : Con := ⟨[(.B, true, [iI, (.sl R8), (.sl R9)]), (.B, false, [iI])], [(false, [.bool])], [iI, (.sl R8), (.sl R9), iI], [.bool], fun (p : Int × tyN × tyP × Int) => f_impl_Alone p.1 p.2.1 p.2.2.1 p.2.2.2⟩
noncomputable abbrev K14 : Cons := [(64, C64), (65, C65), (66, C66)]
noncomputable abbrev L14 : List (Nat × Loops) := []
abbrev Q14 : List (Nat × List (Int × Nat) × Nat) := []
noncomputable abbrev X14 : Nat → Ctx := ctxOf tb K14 L14 Q14
theorem E14 : ∀ x, funRun fs X14 6 14 C14 x = C14.fn x := fun x => by kernel_rfl
theorem B14 : ConB Tryz.prog 14 C14 := ConB.make FS MIX TY (cons := K14) (L := L14) (ptrs := Q14) ⟨S64, S65, S66, trivial⟩ trivial trivial rfl rfl E14
theorem S14 : ConS Tryz.prog 14 C14 := B14.call rfl
noncomputable def f_spec_Alone.l0 : Nat → Int → Bool → Int → Int → Int → Int → tyN → tyP → Option (Bool × Int × Int)
 | 0, _, _, _, _, _, _, _, _ => none
 | n + 1, p0, p1, p2, p3, p4, p5, p6, p7 =>
 bif (decide (p4 < p5)) then
 bif ((decide ((0 : Int) ≤ p4)) && (decide (p4 < (p6.length : Int)))) then
 bif ((decide ((0 : Int) ≤ p0)) && (decide (p0 < (((p6.getD p4.toNat (0, [], [], [], [])).2.1).length : Int)))) then
 (f_spec_l1Bit (!(decide (((((p6.getD p4.toNat (0, [], [], [], [])).2.1).getD p0.toNat (0, [], false)).1) = (0 : Int))))).bind fun y8 =>
 bif ((decide ((0 : Int) ≤ p4)) && (decide (p4 < (p6.length : Int)))) then
 bif ((decide ((0 : Int) ≤ p0)) && (decide (p0 < (((p6.getD p4.toNat (0, [], [], [], [])).2.1).length : Int)))) then
 (f_spec_l1Bit (decide (((((p6.getD p4.toNat (0, [], [], [], [])).2.1).getD p0.toNat (0, [], false)).1) = (2 : Int)))).bind fun y9 =>
 f_spec_Alone.l0 n p0 p1 (IntKind.wrap .i64 (p2 + y8)) (IntKind.wrap .i64 (p3 + y9)) (IntKind.wrap .i64 (p4 + (1 : Int))) p5 p6 p7
 else none
 else none
 else none
 else none
 else
 some (p1, p2, p3)
noncomputable def f_spec_Alone (x0 : Int) (x1 : tyN) (x2 : tyP) (x3 : Int) : Option (Bool) :=
 (f_spec_WorldOk x0 x1 x2).bind fun y0 =>
 bif (!y0) then
 some false
 else
 (f_spec_l1In x3 0 5).bind fun y1 =>
 bif (!y1) then
 some false
 else
 (f_spec_Alone.l0 N x3 false 0 0 0 x0 x1 x2).bind fun r2 =>
 bif (decide (r2.2.2 = (0 : Int))) then
 some true
 else
 bif (decide (r2.2.2 = (1 : Int))) then
 some (decide (r2.2.1 = (1 : Int)))
 else
 some false
noncomputable def C12 : Con := ⟨[(.B, true, [iI, (.sl R8), (.sl R9)]), (.B, false, [iI])], [(false, [.bool])], [iI, (.sl R8), (.sl R9), iI], [.bool], fun (p : Int × tyN × tyP × Int) => f_spec_Alone p.1 p.2.1 p.2.2.1 p.2.2.2⟩
noncomputable abbrev f_spec_Alone.l0.u (n : Nat) := fun (p : Int × Bool × Int × Int × Int × Int × tyN × tyP) => f_spec_Alone.l0 n p.1 p.2.1 p.2.2.1 p.2.2.2.1 p.2.2.2.2.1 p.2.2.2.2.2.1 p.2.2.2.2.2.2.1 p.2.2.2.2.2.2.2
noncomputable def f_spec_Alone.l0.c : LoopCon := ⟨1000, 6, [1, 2, 4, 5, 6, 7], ⟨[(1, i0), (2, .ptr 1000 0), (4, .bool false), (5, i0), (6, i0), (7, i0)], [(1000, .box [i0, bN R8, bN R9])], 1001⟩, [iI, .bool, iI, iI, iI, iI, (.sl R8), (.sl R9)], [⟨.exit 0, [4, 5, 6], ⟨[(4, .bool false), (5, i0), (6, i0)], [], 1000⟩, [.bool, iI, iI]⟩], f_spec_Alone.l0.u N⟩
noncomputable abbrev K12 : Cons := [(59, C59), (60, C60), (61, C61)]
noncomputable abbrev L12 : List (Nat × Loops) := [(12, [(5, f_spec_Alone.l0.c)])]
abbrev Q12 : List (Nat × List (Int × Nat) × Nat) := []
noncomputable abbrev X12 : Nat → Ctx := ctxOf tb K12 L12 Q12
theorem f_spec_Alone.l0.ok : ∀ n p, f_spec_Alone.l0.u n p = iterD (roundOf fs X12 6 12 5 false f_spec_Alone.l0.c) n p :=
 iter_of (l := f_spec_Alone.l0.u) (fun _ => rfl) (fun n p => by kernel_rfl)
theorem E12 : ∀ x, funRun fs X12 6 12 C12 x = C12.fn x := fun x => by kernel_rfl
theorem B12 : ConB Tryz.prog 12 C12 := ConB.make FS MIX TY (cons := K12) (L := L12) (ptrs := Q12) ⟨S59, S60, S61, trivial⟩ trivial ⟨⟨⟨N, fun p => f_spec_Alone.l0.ok N p⟩, trivial⟩, trivial⟩ rfl rfl E12
theorem S12 : ConS Tryz.prog 12 C12 := B12.call rfl
noncomputable def f_slices_Equal_int_int.l0 : Nat → (List Int) → (List Int) → Bool → Int → Int → Option ((Bool) ⊕ (Bool))
 | 0, _, _, _, _, _ => none
 | n + 1, p0, p1, p2, p3, p4 =>
 bif (decide (p4 < p3)) then
 bif ((decide ((0 : Int) ≤ p4)) && (decide (p4 < (p0.length : Int)))) then
 bif ((decide ((0 : Int) ≤ p4)) && (decide (p4 < (p1.length : Int)))) then
 bif (!(decide ((p0.getD p4.toNat 0) = (p1.getD p4.toNat 0)))) then
 some (.inl false)
 else
 f_slices_Equal_int_int.l0 n p0 p1 p2 p3 (IntKind.wrap .i64 (p4 + (1 : Int)))
 else none
 else none
 else
 some (.inr p2)
noncomputable def f_slices_Equal_int_int (x0 : List Int) (x1 : List Int) : Option (Bool) :=
 bif (!(decide ((x0.length : Int) = (x1.length : Int)))) then
 some false
 else
 (f_slices_Equal_int_int.l0 N x0 x1 false (x0.length : Int) 0).bind fun r0 =>
 cs r0 (fun a1 =>
 some a1) (fun b2 =>
 some true)
noncomputable def C72 : Con := ⟨[(.B, false, [(.sl R1)]), (.B, false, [(.sl R1)])], [(false, [.bool])], [(.sl R1), (.sl R1)], [.bool], fun (p : List Int × List Int) => f_slices_Equal_int_int p.1 p.2⟩
noncomputable abbrev f_slices_Equal_int_int.l0.u (n : Nat) := fun (p : List Int × List Int × Bool × Int × Int) => f_slices_Equal_int_int.l0 n p.1 p.2.1 p.2.2.1 p.2.2.2.1 p.2.2.2.2
noncomputable def f_slices_Equal_int_int.l0.c : LoopCon := ⟨1000, 6, [0, 1, 4, 12, 13], ⟨[(0, bN R1), (1, bN R1), (4, .bool false), (12, i0), (13, i0)], [], 1000⟩, [(.sl R1), (.sl R1), .bool, iI, iI], [⟨.ret, [4], ⟨[(4, .bool false)], [], 1000⟩, [.bool]⟩, ⟨.exit 0, [4], ⟨[(4, .bool false)], [], 1000⟩, [.bool]⟩], f_slices_Equal_int_int.l0.u N⟩
noncomputable abbrev K72 : Cons := []
noncomputable abbrev L72 : List (Nat × Loops) := [(72, [(4, f_slices_Equal_int_int.l0.c)])]
abbrev Q72 : List (Nat × List (Int × Nat) × Nat) := []
noncomputable abbrev X72 : Nat → Ctx := ctxOf tb K72 L72 Q72
theorem f_slices_Equal_int_int.l0.ok : ∀ n p, f_slices_Equal_int_int.l0.u n p = iterD (roundOf fs X72 6 72 4 false f_slices_Equal_int_int.l0.c) n p :=
 iter_of (l := f_slices_Equal_int_int.l0.u) (fun _ => rfl) (fun n p => by kernel_rfl)
theorem E72 : ∀ x, funRun fs X72 6 72 C72 x = C72.fn x := fun x => by kernel_rfl
theorem B72 : ConB Tryz.prog 72 C72 := ConB.make FS MIX TY (cons := K72) (L := L72) (ptrs := Q72) trivial trivial ⟨⟨⟨N, fun p => f_slices_Equal_int_int.l0.ok N p⟩, trivial⟩, trivial⟩ rfl rfl E72
theorem S72 : ConS Tryz.prog 72 C72 := B72.call rfl
noncomputable def f_impl_Sane.l3 : Nat → Bool → Int → tyN → Int → Int → Bool → Int → Int → tyF → tyH → tyS → (List Int) → tyN → Int → Int → Int → tyN → tyP → Int → tyF → tyH → tyS → (List Int) → Option ((Bool) ⊕ (Bool × Int × tyN × Int × Int × Bool × Int × Int × tyF × tyH × tyS × List Int × tyN × Int × Int × Bool × Int × tyN × tyP × Int × tyF × tyH × tyS × List Int))
 | 0, _, _, _, _, _, _, _, _, _, _, _, _, _, _, _, _, _, _, _, _, _, _, _ => none
 | n + 1, p0, p1, p2, p3, p4, p5, p6, p7, p8, p9, p10, p11, p12, p13, p14, p15, p16, p17, p18, p19, p20, p21, p22 =>
 bif (decide (p14 < p13)) then
 bif ((decide ((0 : Int) ≤ p14)) && (decide (p14 < (p12.length : Int)))) then
 bif ((decide ((0 : Int) ≤ p14)) && (decide (p14 < (p22.length : Int)))) then
 bif ((decide ((0 : Int) ≤ p1)) && (decide (p1 < (((p12.getD p14.toNat (0, [], [], [], [])).2.2.2.1).length : Int)))) then
 bif ((decide ((0 : Int) ≤ p1)) && (decide (p1 < (((p12.getD p14.toNat (0, [], [], [], [])).2.2.2.1).length : Int)))) then
 bif (decide ((IntKind.wrap .i64 (((((p12.getD p14.toNat (0, [], [], [], [])).2.2.2.1).getD p1.toNat (0, [])).1) + (((((p12.getD p14.toNat (0, [], [], [], [])).2.2.2.1).getD p1.toNat (0, [])).2).length : Int))) < (p22.getD p14.toNat 0))) then
 some (.inl false)
 else
 f_impl_Sane.l3 n p0 p1 p2 p3 p4 p5 p6 p7 p8 p9 p10 p11 p12 p13 (IntKind.wrap .i64 (p14 + (1 : Int))) p15 p16 p17 p18 p19 p20 p21 p22
 else none
 else none
 else none
 else none
 else
 some (.inr (p0, p1, p2, p3, p4, p5, p6, p7, p8, p9, p10, p11, p12, p13, p14, false, p15, p16, p17, p18, p19, p20, p21, p22))
noncomputable def f_impl_Sane.l2 : Nat → Bool → tyN → Int → Int → Int → tyN → tyP → Option ((Bool) ⊕ (Bool))
 | 0, _, _, _, _, _, _, _ => none
 | n + 1, p0, p1, p2, p3, p4, p5, p6 =>
 bif (decide (p3 < p2)) then
 bif ((decide ((0 : Int) ≤ p3)) && (decide (p3 < (p1.length : Int)))) then
 (f_impl_Sane.l3 N p0 p3 p1 p2 p3 true p3 ((p1.getD p3.toNat (0, [], [], [], [])).1) ((p1.getD p3.toNat (0, [], [], [], [])).2.1) ((p1.getD p3.toNat (0, [], [], [], [])).2.2.1) ((p1.getD p3.toNat (0, [], [], [], [])).2.2.2.1) ((p1.getD p3.toNat (0, [], [], [], [])).2.2.2.2) p5 (p5.length : Int) 0 p4 p5 p6 ((p1.getD p3.toNat (0, [], [], [], [])).1) ((p1.getD p3.toNat (0, [], [], [], [])).2.1) ((p1.getD p3.toNat (0, [], [], [], [])).2.2.1) ((p1.getD p3.toNat (0, [], [], [], [])).2.2.2.1) ((p1.getD p3.toNat (0, [], [], [], [])).2.2.2.2)).bind fun r7 =>
 cs r7 (fun a8 =>
 some (.inl a8)) (fun b9 =>
 f_impl_Sane.l2 n b9.1 b9.2.2.1 b9.2.2.2.1 (IntKind.wrap .i64 (b9.2.2.2.2.1 + (1 : Int))) b9.2.2.2.2.2.2.2.2.2.2.2.2.2.2.2.2.1 b9.2.2.2.2.2.2.2.2.2.2.2.2.2.2.2.2.2.1 b9.2.2.2.2.2.2.2.2.2.2.2.2.2.2.2.2.2.2.1)
 else none
 else
 some (.inr p0)
noncomputable def f_impl_Sane.l1 : Nat → Bool → Int → Int → Bool → Int → Int → tyN → tyP → Int → Int → tyN → tyP → Int → Bool → Bool → Bool → Int → Bool → Bool → tyN → Int → Int → Int → tyN → tyP → (List Int) → Option ((Bool) ⊕ (Bool × Int × Int × Bool × Int × Int × tyN × tyP × Int × Int × tyN × tyP × Int × Bool × Bool × Bool × Int × Bool × Bool × tyN × Int × Int × Bool × Int × tyN × tyP × List Int))
 | 0, _, _, _, _, _, _, _, _, _, _, _, _, _, _, _, _, _, _, _, _, _, _, _, _, _, _ => none
 | n + 1, p0, p1, p2, p3, p4, p5, p6, p7, p8, p9, p10, p11, p12, p13, p14, p15, p16, p17, p18, p19, p20, p21, p22, p23, p24, p25 =>
 bif (decide (p21 < p20)) then
 bif ((decide ((0 : Int) ≤ p21)) && (decide (p21 < (p19.length : Int)))) then
 bif ((decide ((0 : Int) ≤ p1)) && (decide (p1 < (((p19.getD p21.toNat (0, [], [], [], [])).2.1).length : Int)))) then
 bif (!(decide (((((p19.getD p21.toNat (0, [], [], [], [])).2.1).getD p1.toNat (0, [], false)).1) = (0 : Int)))) then
 (f_slices_Equal_int_int ((((p19.getD p21.toNat (0, [], [], [], [])).2.1).getD p1.toNat (0, [], false)).2.1) p25).bind fun y26 =>
 bif (!y26) then
 some (.inl false)
 else
 f_impl_Sane.l1 n p0 p1 p2 p3 p4 p5 p6 p7 p8 p9 p10 p11 p12 p13 p14 p15 p16 p17 p18 p19 p20 (IntKind.wrap .i64 (p21 + (1 : Int))) p22 p23 p24 p25
 else
 f_impl_Sane.l1 n p0 p1 p2 p3 p4 p5 p6 p7 p8 p9 p10 p11 p12 p13 p14 p15 p16 p17 p18 p19 p20 (IntKind.wrap .i64 (p21 + (1 : Int))) p22 p23 p24 p25
 else none
 else none
 else
 some (.inr (p0, p1, p2, p3, p4, p5, p6, p7, p8, p9, p10, p11, p12, p13, p14, p15, p16, p17, p18, p19, p20, p21, false, p22, p23, p24, p25))
noncomputable def f_impl_Sane.l0 : Nat → Bool → Int → Int → tyN → tyP → Option ((Bool) ⊕ (Bool × Int × tyN × tyP))
 | 0, _, _, _, _, _ => none
 | n + 1, p0, p1, p2, p3, p4 =>
 bif (decide (p1 < (6 : Int))) then
 (f_impl_truth p2 p3 p4 p1).bind fun y5 =>
 (f_impl_alone p2 p3 p4 p1).bind fun y6 =>
 bif (!y6) then
 some (.inl false)
 else
 bif (!(decide ((y5.length : Int) = (4 : Int)))) then
 some (.inl false)
 else
 (f_impl_Sane.l1 N p0 p1 p1 true p1 p2 p3 p4 p1 p2 p3 p4 p1 y6 (!y6) false (y5.length : Int) (!(decide ((y5.length : Int) = (4 : Int)))) false p3 (p3.length : Int) 0 p2 p3 p4 y5).bind fun r7 =>
 cs r7 (fun a8 =>
 some (.inl a8)) (fun b9 =>
 f_impl_Sane.l0 n b9.1 (IntKind.wrap .i64 (b9.2.2.1 + (1 : Int))) b9.2.2.2.2.2.2.2.2.2.2.2.2.2.2.2.2.2.2.2.2.2.2.2.1 b9.2.2.2.2.2.2.2.2.2.2.2.2.2.2.2.2.2.2.2.2.2.2.2.2.1 b9.2.2.2.2.2.2.2.2.2.2.2.2.2.2.2.2.2.2.2.2.2.2.2.2.2.1)
 else
 some (.inr (p0, p2, p3, p4))
noncomputable def f_impl_Sane (x0 : Int) (x1 : tyN) (x2 : tyP) : Option (Bool) :=
 (f_impl_WorldOk x0 x1 x2).bind fun y0 =>
 bif (!y0) then
 some false
 else
 (f_impl_Sane.l0 N false 0 x0 x1 x2).bind fun r1 =>
 cs r1 (fun a2 =>
 some a2) (fun b3 =>
 (f_impl_Sane.l2 N b3.1 b3.2.2.1 (b3.2.2.1.length : Int) 0 b3.2.1 b3.2.2.1 b3.2.2.2).bind fun r4 =>
 cs r4 (fun a5 =>
 some a5) (fun b6 =>
 some true))
noncomputable def C17 : Con := ⟨[(.B, true, [iI, (.sl R8), (.sl R9)])], [(false, [.bool])], [iI, (.sl R8), (.sl R9)], [.bool], fun (p : Int × tyN × tyP) => f_impl_Sane p.1 p.2.1 p.2.2⟩
noncomputable abbrev f_impl_Sane.l0.u (n : Nat) := fun (p : Bool × Int × Int × tyN × tyP) => f_impl_Sane.l0 n p.1 p.2.1 p.2.2.1 p.2.2.2.1 p.2.2.2.2
noncomputable def f_impl_Sane.l0.c : LoopCon := ⟨1000, 6, [1, 2, 15], ⟨[(1, .ptr 1000 0), (2, .bool false), (15, i0)], [(1000, .box [i0, bN R8, bN R9])], 1001⟩, [.bool, iI, iI, (.sl R8), (.sl R9)], [⟨.ret, [2], ⟨[(2, .bool false)], [], 1000⟩, [.bool]⟩, ⟨.exit 0, [1, 2], ⟨[(1, .ptr 1000 0), (2, .bool false)], [(1000, .box [i0, bN R8, bN R9])], 1001⟩, [.bool, iI, (.sl R8), (.sl R9)]⟩], f_impl_Sane.l0.u N⟩
noncomputable abbrev f_impl_Sane.l1.u (n : Nat) := fun (p : Bool × Int × Int × Bool × Int × Int × tyN × tyP × Int × Int × tyN × tyP × Int × Bool × Bool × Bool × Int × Bool × Bool × tyN × Int × Int × Int × tyN × tyP × List Int) => f_impl_Sane.l1 n p.1 p.2.1 p.2.2.1 p.2.2.2.1 p.2.2.2.2.1 p.2.2.2.2.2.1 p.2.2.2.2.2.2.1 p.2.2.2.2.2.2.2.1 p.2.2.2.2.2.2.2.2.1 p.2.2.2.2.2.2.2.2.2.1 p.2.2.2.2.2.2.2.2.2.2.1 p.2.2.2.2.2.2.2.2.2.2.2.1 p.2.2.2.2.2.2.2.2.2.2.2.2.1 p.2.2.2.2.2.2.2.2.2.2.2.2.2.1 p.2.2.2.2.2.2.2.2.2.2.2.2.2.2.1 p.2.2.2.2.2.2.2.2.2.2.2.2.2.2.2.1 p.2.2.2.2.2.2.2.2.2.2.2.2.2.2.2.2.1 p.2.2.2.2.2.2.2.2.2.2.2.2.2.2.2.2.2.1 p.2.2.2.2.2.2.2.2.2.2.2.2.2.2.2.2.2.2.1 p.2.2.2.2.2.2.2.2.2.2.2.2.2.2.2.2.2.2.2.1 p.2.2.2.2.2.2.2.2.2.2.2.2.2.2.2.2.2.2.2.2.1 p.2.2.2.2.2.2.2.2.2.2.2.2.2.2.2.2.2.2.2.2.2.1 p.2.2.2.2.2.2.2.2.2.2.2.2.2.2.2.2.2.2.2.2.2.2.1 p.2.2.2.2.2.2.2.2.2.2.2.2.2.2.2.2.2.2.2.2.2.2.2.1 p.2.2.2.2.2.2.2.2.2.2.2.2.2.2.2.2.2.2.2.2.2.2.2.2.1 p.2.2.2.2.2.2.2.2.2.2.2.2.2.2.2.2.2.2.2.2.2.2.2.2.2
noncomputable def f_impl_Sane.l1.c : LoopCon := ⟨1000, 6, [1, 2, 3, 4, 15, 16, 17, 18, 19, 20, 21, 22, 23, 24, 25, 26, 27, 28, 29, 30, 31, 32, 33], ⟨[(1, .ptr 1000 0), (2, .bool false), (3, i0), (4, .ref 1001 [] none), (15, i0), (16, .bool false), (17, i0), (18, .agg [i0, bN R8, bN R9]), (19, i0), (20, .ref 1001 [] none), (21, .agg [i0, bN R8, bN R9]), (22, i0), (23, .bool false), (24, .bool false), (25, .bool false), (26, .ref 1001 [] none), (27, i0), (28, .bool false), (29, .bool false), (30, .ptr 1000 1), (31, bN R8), (32, i0), (33, i0)], [(1000, .box [i0, bN R8, bN R9]), (1001, .row R1 [])], 1002⟩, [.bool, iI, iI, .bool, iI, iI, (.sl R8), (.sl R9), iI, iI, (.sl R8), (.sl R9), iI, .bool, .bool, .bool, iI, .bool, .bool, (.sl R8), iI, iI, iI, (.sl R8), (.sl R9), (.sl R1)], [⟨.ret, [2], ⟨[(2, .bool false)], [], 1000⟩, [.bool]⟩, ⟨.exit 2, [1, 2, 3, 4, 15, 16, 17, 18, 19, 20, 21, 22, 23, 24, 25, 26, 27, 28, 29, 30, 31, 32, 33, 34], ⟨[(1, .ptr 1000 0), (2, .bool false), (3, i0), (4, .ref 1001 [] none), (15, i0), (16, .bool false), (17, i0), (18, .agg [i0, bN R8, bN R9]), (19, i0), (20, .ref 1001 [] none), (21, .agg [i0, bN R8, bN R9]), (22, i0), (23, .bool false), (24, .bool false), (25, .bool false), (26, .ref 1001 [] none), (27, i0), (28, .bool false), (29, .bool false), (30, .ptr 1000 1), (31, bN R8), (32, i0), (33, i0), (34, .bool false)], [(1000, .box [i0, bN R8, bN R9]), (1001, .row R1 [])], 1002⟩, [.bool, iI, iI, .bool, iI, iI, (.sl R8), (.sl R9), iI, iI, (.sl R8), (.sl R9), iI, .bool, .bool, .bool, iI, .bool, .bool, (.sl R8), iI, iI, .bool, iI, (.sl R8), (.sl R9), (.sl R1)]⟩], f_impl_Sane.l1.u N⟩
noncomputable abbrev f_impl_Sane.l2.u (n : Nat) := fun (p : Bool × tyN × Int × Int × Int × tyN × tyP) => f_impl_Sane.l2 n p.1 p.2.1 p.2.2.1 p.2.2.2.1 p.2.2.2.2.1 p.2.2.2.2.2.1 p.2.2.2.2.2.2
noncomputable def f_impl_Sane.l2.c : LoopCon := ⟨1000, 6, [1, 2, 55, 56, 57], ⟨[(1, .ptr 1000 0), (2, .bool false), (55, bN R8), (56, i0), (57, i0)], [(1000, .box [i0, bN R8, bN R9])], 1001⟩, [.bool, (.sl R8), iI, iI, iI, (.sl R8), (.sl R9)], [⟨.ret, [2], ⟨[(2, .bool false)], [], 1000⟩, [.bool]⟩, ⟨.exit 4, [2], ⟨[(2, .bool false)], [], 1000⟩, [.bool]⟩], f_impl_Sane.l2.u N⟩
noncomputable abbrev f_impl_Sane.l3.u (n : Nat) := fun (p : Bool × Int × tyN × Int × Int × Bool × Int × Int × tyF × tyH × tyS × List Int × tyN × Int × Int × Int × tyN × tyP × Int × tyF × tyH × tyS × List Int) => f_impl_Sane.l3 n p.1 p.2.1 p.2.2.1 p.2.2.2.1 p.2.2.2.2.1 p.2.2.2.2.2.1 p.2.2.2.2.2.2.1 p.2.2.2.2.2.2.2.1 p.2.2.2.2.2.2.2.2.1 p.2.2.2.2.2.2.2.2.2.1 p.2.2.2.2.2.2.2.2.2.2.1 p.2.2.2.2.2.2.2.2.2.2.2.1 p.2.2.2.2.2.2.2.2.2.2.2.2.1 p.2.2.2.2.2.2.2.2.2.2.2.2.2.1 p.2.2.2.2.2.2.2.2.2.2.2.2.2.2.1 p.2.2.2.2.2.2.2.2.2.2.2.2.2.2.2.1 p.2.2.2.2.2.2.2.2.2.2.2.2.2.2.2.2.1 p.2.2.2.2.2.2.2.2.2.2.2.2.2.2.2.2.2.1 p.2.2.2.2.2.2.2.2.2.2.2.2.2.2.2.2.2.2.1 p.2.2.2.2.2.2.2.2.2.2.2.2.2.2.2.2.2.2.2.1 p.2.2.2.2.2.2.2.2.2.2.2.2.2.2.2.2.2.2.2.2.1 p.2.2.2.2.2.2.2.2.2.2.2.2.2.2.2.2.2.2.2.2.2.1 p.2.2.2.2.2.2.2.2.2.2.2.2.2.2.2.2.2.2.2.2.2.2
noncomputable def f_impl_Sane.l3.c : LoopCon := ⟨1000, 6, [1, 2, 8, 9, 55, 56, 57, 58, 59, 61, 62, 63, 64, 65], ⟨[(1, .ptr 1000 0), (2, .bool false), (8, i0), (9, .ptr 1001 0), (55, bN R8), (56, i0), (57, i0), (58, .bool false), (59, i0), (61, .agg [i0, bN R4, bN R5, bN R7, bN R1]), (62, .ptr 1000 1), (63, bN R8), (64, i0), (65, i0)], [(1000, .box [i0, bN R8, bN R9]), (1001, .box [i0, bN R4, bN R5, bN R7, bN R1])], 1002⟩, [.bool, iI, (.sl R8), iI, iI, .bool, iI, iI, (.sl R4), (.sl R5), (.sl R7), (.sl R1), (.sl R8), iI, iI, iI, (.sl R8), (.sl R9), iI, (.sl R4), (.sl R5), (.sl R7), (.sl R1)], [⟨.ret, [2], ⟨[(2, .bool false)], [], 1000⟩, [.bool]⟩, ⟨.exit 6, [1, 2, 8, 9, 55, 56, 57, 58, 59, 61, 62, 63, 64, 65, 66], ⟨[(1, .ptr 1000 0), (2, .bool false), (8, i0), (9, .ptr 1001 0), (55, bN R8), (56, i0), (57, i0), (58, .bool false), (59, i0), (61, .agg [i0, bN R4, bN R5, bN R7, bN R1]), (62, .ptr 1000 1), (63, bN R8), (64, i0), (65, i0), (66, .bool false)], [(1000, .box [i0, bN R8, bN R9]), (1001, .box [i0, bN R4, bN R5, bN R7, bN R1])], 1002⟩, [.bool, iI, (.sl R8), iI, iI, .bool, iI, iI, (.sl R4), (.sl R5), (.sl R7), (.sl R1), (.sl R8), iI, iI, .bool, iI, (.sl R8), (.sl R9), iI, (.sl R4), (.sl R5), (.sl R7), (.sl R1)]⟩], f_impl_Sane.l3.u N⟩
noncomputable abbrev K17 : Cons := [(64, C64), (66, C66), (71, C71), (72, C72)]
noncomputable abbrev L17 : List (Nat × Loops) := [(17, [(4, f_impl_Sane.l0.c), (10, f_impl_Sane.l1.c), (18, f_impl_Sane.l2.c), (21, f_impl_Sane.l3.c)])]
abbrev Q17 : List (Nat × List (Int × Nat) × Nat) := []
noncomputable abbrev X17 : Nat → Ctx := ctxOf tb K17 L17 Q17
theorem f_impl_Sane.l0.ok : ∀ n p, f_impl_Sane.l0.u n p = iterD (roundOf fs X17 6 17 4 false f_impl_Sane.l0.c) n p :=
 iter_of (l := f_impl_Sane.l0.u) (fun _ => rfl) (fun n p => by kernel_rfl)
theorem f_impl_Sane.l1.ok : ∀ n p, f_impl_Sane.l1.u n p = iterD (roundOf fs X17 6 17 10 false f_impl_Sane.l1.c) n p :=
 iter_of (l := f_impl_Sane.l1.u) (fun _ => rfl) (fun n p => by kernel_rfl)
theorem f_impl_Sane.l2.ok : ∀ n p, f_impl_Sane.l2.u n p = iterD (roundOf fs X17 6 17 18 false f_impl_Sane.l2.c) n p :=
 iter_of (l := f_impl_Sane.l2.u) (fun _ => rfl) (fun n p => by kernel_rfl)
theorem f_impl_Sane.l3.ok : ∀ n p, f_impl_Sane.l3.u n p = iterD (roundOf fs X17 6 17 21 false f_impl_Sane.l3.c) n p :=
 iter_of (l := f_impl_Sane.l3.u) (fun _ => rfl) (fun n p => by kernel_rfl)
theorem E17 : ∀ x, funRun fs X17 6 17 C17 x = C17.fn x := fun x => by kernel_rfl
theorem B17 : ConB Tryz.prog 17 C17 := ConB.make FS MIX TY (cons := K17) (L := L17) (ptrs := Q17) ⟨S64, S66, S71, S72, trivial⟩ trivial ⟨⟨⟨N, fun p => f_impl_Sane.l0.ok N p⟩, ⟨N, fun p => f_impl_Sane.l1.ok N p⟩, ⟨N, fun p => f_impl_Sane.l2.ok N p⟩, ⟨N, fun p => f_impl_Sane.l3.ok N p⟩, trivial⟩, trivial⟩ rfl rfl E17
theorem S17 : ConS Tryz.prog 17 C17 := B17.call rfl
noncomputable def f_spec_l7Ints.l0 : Nat → (List Int) → (List Int) → Bool → Int → Option ((Bool) ⊕ (List Int × List Int × Bool))
 | 0, _, _, _, _ => none
 | n + 1, p0, p1, p2, p3 =>
 bif (decide (p3 < (p0.length : Int))) then
 bif (decide (p3 < (p1.length : Int))) then
 bif ((decide ((0 : Int) ≤ p3)) && (decide (p3 < (p0.length : Int)))) then
 bif ((decide ((0 : Int) ≤ p3)) && (decide (p3 < (p1.length : Int)))) then
 bif (!(decide ((p0.getD p3.toNat 0) = (p1.getD p3.toNat 0)))) then
 some (.inl false)
 else
 f_spec_l7Ints.l0 n p0 p1 p2 (IntKind.wrap .i64 (p3 + (1 : Int)))
 else none
 else none
 else
 some (.inr (p0, p1, p2))
 else
 some (.inr (p0, p1, p2))
noncomputable def f_spec_l7Ints (x0 : List Int) (x1 : List Int) : Option (Bool) :=
 (f_spec_l7Ints.l0 N x0 x1 false 0).bind fun r0 =>
 cs r0 (fun a1 =>
 some a1) (fun b2 =>
 some (decide ((b2.1.length : Int) = (b2.2.1.length : Int))))
noncomputable def C70 : Con := ⟨[(.B, false, [(.sl R1)]), (.B, false, [(.sl R1)])], [(false, [.bool])], [(.sl R1), (.sl R1)], [.bool], fun (p : List Int × List Int) => f_spec_l7Ints p.1 p.2⟩
noncomputable abbrev f_spec_l7Ints.l0.u (n : Nat) := fun (p : List Int × List Int × Bool × Int) => f_spec_l7Ints.l0 n p.1 p.2.1 p.2.2.1 p.2.2.2
noncomputable def f_spec_l7Ints.l0.c : LoopCon := ⟨1000, 6, [0, 1, 4, 5], ⟨[(0, bN R1), (1, bN R1), (4, .bool false), (5, i0)], [], 1000⟩, [(.sl R1), (.sl R1), .bool, iI], [⟨.ret, [4], ⟨[(4, .bool false)], [], 1000⟩, [.bool]⟩, ⟨.exit 0, [0, 1, 4], ⟨[(0, bN R1), (1, bN R1), (4, .bool false)], [], 1000⟩, [(.sl R1), (.sl R1), .bool]⟩], f_spec_l7Ints.l0.u N⟩
noncomputable abbrev K70 : Cons := []
noncomputable abbrev L70 : List (Nat × Loops) := [(70, [(2, f_spec_l7Ints.l0.c)])]
abbrev Q70 : List (Nat × List (Int × Nat) × Nat) := []
noncomputable abbrev X70 : Nat → Ctx := ctxOf tb K70 L70 Q70
theorem f_spec_l7Ints.l0.ok : ∀ n p, f_spec_l7Ints.l0.u n p = iterD (roundOf fs X70 6 70 2 false f_spec_l7Ints.l0.c) n p :=
 iter_of (l := f_spec_l7Ints.l0.u) (fun _ => rfl) (fun n p => by kernel_rfl)
theorem E70 : ∀ x, funRun fs X70 6 70 C70 x = C70.fn x := fun x => by kernel_rfl
theorem B70 : ConB Tryz.prog 70 C70 := ConB.make FS MIX TY (cons := K70) (L := L70) (ptrs := Q70) trivial trivial ⟨⟨⟨N, fun p => f_spec_l7Ints.l0.ok N p⟩, trivial⟩, trivial⟩ rfl rfl E70
theorem S70 : ConS Tryz.prog 70 C70 := B70.call rfl
noncomputable def f_spec_Sane.l3 : Nat → Bool → Int → Int → Int → Int → Bool → Int → tyN → tyP → Option ((Bool) ⊕ (Bool × Int × Int × Int × Int × Bool × Int × Int × Bool × Int × tyN × tyP))
 | 0, _, _, _, _, _, _, _, _, _ => none
 | n + 1, p0, p1, p2, p3, p4, p5, p6, p7, p8 =>
 bif (decide (p2 < p6)) then
 bif ((decide ((0 : Int) ≤ p2)) && (decide (p2 < (p7.length : Int)))) then
 bif ((decide ((0 : Int) ≤ p1)) && (decide (p1 < (((p7.getD p2.toNat (0, [], [], [], [])).2.2.2.1).length : Int)))) then
 bif ((decide ((0 : Int) ≤ p1)) && (decide (p1 < (p7.length : Int)))) then
 bif ((decide ((0 : Int) ≤ p2)) && (decide (p2 < (((p7.getD p1.toNat (0, [], [], [], [])).2.2.2.2).length : Int)))) then
 bif (decide ((IntKind.wrap .i64 (((((p7.getD p2.toNat (0, [], [], [], [])).2.2.2.1).getD p1.toNat (0, [])).1) + (((((p7.getD p2.toNat (0, [], [], [], [])).2.2.2.1).getD p1.toNat (0, [])).2).length : Int))) < (((p7.getD p1.toNat (0, [], [], [], [])).2.2.2.2).getD p2.toNat 0))) then
 some (.inl false)
 else
 f_spec_Sane.l3 n p0 p1 (IntKind.wrap .i64 (p2 + (1 : Int))) p3 p4 p5 p6 p7 p8
 else none
 else none
 else none
 else none
 else
 some (.inr (p0, p1, p2, p3, p4, p5, p2, p6, false, p6, p7, p8))
noncomputable def f_spec_Sane.l2 : Nat → Bool → Int → Int → tyN → tyP → Option ((Bool) ⊕ (Bool))
 | 0, _, _, _, _, _ => none
 | n + 1, p0, p1, p2, p3, p4 =>
 bif (decide (p1 < p2)) then
 (f_spec_Sane.l3 N p0 p1 0 p1 p2 true p2 p3 p4).bind fun r5 =>
 cs r5 (fun a6 =>
 some (.inl a6)) (fun b7 =>
 f_spec_Sane.l2 n b7.1 (IntKind.wrap .i64 (b7.2.1 + (1 : Int))) b7.2.2.2.2.2.2.2.2.2.1 b7.2.2.2.2.2.2.2.2.2.2.1 b7.2.2.2.2.2.2.2.2.2.2.2)
 else
 some (.inr p0)
noncomputable def f_spec_Sane.l1 : Nat → Bool → Int → Int → Int → Bool → Int → tyN → tyP → Int → Bool → Bool → Int → tyN → tyP → Int → Int → Bool → Int → tyN → tyP → (List Int) → Option ((Bool) ⊕ (Bool × Int × Int × Int × Bool × Int × tyN × tyP × Int × Bool × Bool × Int × tyN × tyP × Int × Int × Bool × Int × Int × Bool × Int × tyN × tyP × List Int))
 | 0, _, _, _, _, _, _, _, _, _, _, _, _, _, _, _, _, _, _, _, _, _ => none
 | n + 1, p0, p1, p2, p3, p4, p5, p6, p7, p8, p9, p10, p11, p12, p13, p14, p15, p16, p17, p18, p19, p20 =>
 bif (decide (p2 < p17)) then
 bif ((decide ((0 : Int) ≤ p2)) && (decide (p2 < (p18.length : Int)))) then
 bif ((decide ((0 : Int) ≤ p1)) && (decide (p1 < (((p18.getD p2.toNat (0, [], [], [], [])).2.1).length : Int)))) then
 bif (!(decide (((((p18.getD p2.toNat (0, [], [], [], [])).2.1).getD p1.toNat (0, [], false)).1) = (0 : Int)))) then
 (f_spec_l7Ints ((((p18.getD p2.toNat (0, [], [], [], [])).2.1).getD p1.toNat (0, [], false)).2.1) p20).bind fun y21 =>
 bif (!y21) then
 some (.inl false)
 else
 f_spec_Sane.l1 n p0 p1 (IntKind.wrap .i64 (p2 + (1 : Int))) p3 p4 p5 p6 p7 p8 p9 p10 p11 p12 p13 p14 p15 p16 p17 p18 p19 p20
 else
 f_spec_Sane.l1 n p0 p1 (IntKind.wrap .i64 (p2 + (1 : Int))) p3 p4 p5 p6 p7 p8 p9 p10 p11 p12 p13 p14 p15 p16 p17 p18 p19 p20
 else none
 else none
 else
 some (.inr (p0, p1, p2, p3, p4, p5, p6, p7, p8, p9, p10, p11, p12, p13, p14, p15, p16, p2, p17, false, p17, p18, p19, p20))
noncomputable def f_spec_Sane.l0 : Nat → Bool → Int → Int → tyN → tyP → Option ((Bool) ⊕ (Bool × Int × tyN × tyP))
 | 0, _, _, _, _, _ => none
 | n + 1, p0, p1, p2, p3, p4 =>
 bif (decide (p1 < (6 : Int))) then
 (f_spec_Alone p2 p3 p4 p1).bind fun y5 =>
 bif (!y5) then
 some (.inl false)
 else
 (f_spec_l7Truth p2 p3 p4 p1).bind fun y6 =>
 bif (!(decide ((y6.length : Int) = (4 : Int)))) then
 some (.inl false)
 else
 (f_spec_Sane.l1 N p0 p1 0 p1 true p2 p3 p4 p1 y5 false p2 p3 p4 p1 (y6.length : Int) false p2 p3 p4 y6).bind fun r7 =>
 cs r7 (fun a8 =>
 some (.inl a8)) (fun b9 =>
 f_spec_Sane.l0 n b9.1 (IntKind.wrap .i64 (b9.2.1 + (1 : Int))) b9.2.2.2.2.2.2.2.2.2.2.2.2.2.2.2.2.2.2.2.2.1 b9.2.2.2.2.2.2.2.2.2.2.2.2.2.2.2.2.2.2.2.2.2.1 b9.2.2.2.2.2.2.2.2.2.2.2.2.2.2.2.2.2.2.2.2.2.2.1)
 else
 some (.inr (p0, p2, p3, p4))
noncomputable def f_spec_Sane (x0 : Int) (x1 : tyN) (x2 : tyP) : Option (Bool) :=
 (f_spec_Sane.l0 N false 0 x0 x1 x2).bind fun r0 =>
 cs r0 (fun a1 =>
 some a1) (fun b2 =>
 (f_spec_Sane.l2 N b2.1 0 b2.2.1 b2.2.2.1 b2.2.2.2).bind fun r3 =>
 cs r3 (fun a4 =>
 some a4) (fun b5 =>
 some true))
noncomputable def C16 : Con := ⟨[(.B, true, [iI, (.sl R8), (.sl R9)])], [(false, [.bool])], [iI, (.sl R8), (.sl R9)], [.bool], fun (p : Int × tyN × tyP) => f_spec_Sane p.1 p.2.1 p.2.2⟩
noncomputable abbrev f_spec_Sane.l0.u (n : Nat) := fun (p : Bool × Int × Int × tyN × tyP) => f_spec_Sane.l0 n p.1 p.2.1 p.2.2.1 p.2.2.2.1 p.2.2.2.2
noncomputable def f_spec_Sane.l0.c : LoopCon := ⟨1000, 6, [1, 2, 3], ⟨[(1, .ptr 1000 0), (2, .bool false), (3, i0)], [(1000, .box [i0, bN R8, bN R9])], 1001⟩, [.bool, iI, iI, (.sl R8), (.sl R9)], [⟨.ret, [2], ⟨[(2, .bool false)], [], 1000⟩, [.bool]⟩, ⟨.exit 0, [1, 2], ⟨[(1, .ptr 1000 0), (2, .bool false)], [(1000, .box [i0, bN R8, bN R9])], 1001⟩, [.bool, iI, (.sl R8), (.sl R9)]⟩], f_spec_Sane.l0.u N⟩
noncomputable abbrev f_spec_Sane.l1.u (n : Nat) := fun (p : Bool × Int × Int × Int × Bool × Int × tyN × tyP × Int × Bool × Bool × Int × tyN × tyP × Int × Int × Bool × Int × tyN × tyP × List Int) => f_spec_Sane.l1 n p.1 p.2.1 p.2.2.1 p.2.2.2.1 p.2.2.2.2.1 p.2.2.2.2.2.1 p.2.2.2.2.2.2.1 p.2.2.2.2.2.2.2.1 p.2.2.2.2.2.2.2.2.1 p.2.2.2.2.2.2.2.2.2.1 p.2.2.2.2.2.2.2.2.2.2.1 p.2.2.2.2.2.2.2.2.2.2.2.1 p.2.2.2.2.2.2.2.2.2.2.2.2.1 p.2.2.2.2.2.2.2.2.2.2.2.2.2.1 p.2.2.2.2.2.2.2.2.2.2.2.2.2.2.1 p.2.2.2.2.2.2.2.2.2.2.2.2.2.2.2.1 p.2.2.2.2.2.2.2.2.2.2.2.2.2.2.2.2.1 p.2.2.2.2.2.2.2.2.2.2.2.2.2.2.2.2.2.1 p.2.2.2.2.2.2.2.2.2.2.2.2.2.2.2.2.2.2.1 p.2.2.2.2.2.2.2.2.2.2.2.2.2.2.2.2.2.2.2.1 p.2.2.2.2.2.2.2.2.2.2.2.2.2.2.2.2.2.2.2.2
noncomputable def f_spec_Sane.l1.c : LoopCon := ⟨1000, 6, [1, 2, 3, 4, 5, 10, 11, 14, 15, 16, 17, 18, 19, 20, 21, 22, 23], ⟨[(1, .ptr 1000 0), (2, .bool false), (3, i0), (4, .ref 1001 [] none), (5, i0), (10, i0), (11, .bool false), (14, .agg [i0, bN R8, bN R9]), (15, i0), (16, .bool false), (17, .bool false), (18, .agg [i0, bN R8, bN R9]), (19, i0), (20, .ref 1001 [] none), (21, .ref 1001 [] none), (22, i0), (23, .bool false)], [(1000, .box [i0, bN R8, bN R9]), (1001, .row R1 [])], 1002⟩, [.bool, iI, iI, iI, .bool, iI, (.sl R8), (.sl R9), iI, .bool, .bool, iI, (.sl R8), (.sl R9), iI, iI, .bool, iI, (.sl R8), (.sl R9), (.sl R1)], [⟨.ret, [2], ⟨[(2, .bool false)], [], 1000⟩, [.bool]⟩, ⟨.exit 2, [1, 2, 3, 4, 5, 10, 11, 14, 15, 16, 17, 18, 19, 20, 21, 22, 23, 24, 25, 26, 27], ⟨[(1, .ptr 1000 0), (2, .bool false), (3, i0), (4, .ref 1001 [] none), (5, i0), (10, i0), (11, .bool false), (14, .agg [i0, bN R8, bN R9]), (15, i0), (16, .bool false), (17, .bool false), (18, .agg [i0, bN R8, bN R9]), (19, i0), (20, .ref 1001 [] none), (21, .ref 1001 [] none), (22, i0), (23, .bool false), (24, i0), (25, .ptr 1000 0), (26, i0), (27, .bool false)], [(1000, .box [i0, bN R8, bN R9]), (1001, .row R1 [])], 1002⟩, [.bool, iI, iI, iI, .bool, iI, (.sl R8), (.sl R9), iI, .bool, .bool, iI, (.sl R8), (.sl R9), iI, iI, .bool, iI, iI, .bool, iI, (.sl R8), (.sl R9), (.sl R1)]⟩], f_spec_Sane.l1.u N⟩
noncomputable abbrev f_spec_Sane.l2.u (n : Nat) := fun (p : Bool × Int × Int × tyN × tyP) => f_spec_Sane.l2 n p.1 p.2.1 p.2.2.1 p.2.2.2.1 p.2.2.2.2
noncomputable def f_spec_Sane.l2.c : LoopCon := ⟨1000, 6, [1, 2, 7], ⟨[(1, .ptr 1000 0), (2, .bool false), (7, i0)], [(1000, .box [i0, bN R8, bN R9])], 1001⟩, [.bool, iI, iI, (.sl R8), (.sl R9)], [⟨.ret, [2], ⟨[(2, .bool false)], [], 1000⟩, [.bool]⟩, ⟨.exit 4, [2], ⟨[(2, .bool false)], [], 1000⟩, [.bool]⟩], f_spec_Sane.l2.u N⟩
noncomputable abbrev f_spec_Sane.l3.u (n : Nat) := fun (p : Bool × Int × Int × Int × Int × Bool × Int × tyN × tyP) => f_spec_Sane.l3 n p.1 p.2.1 p.2.2.1 p.2.2.2.1 p.2.2.2.2.1 p.2.2.2.2.2.1 p.2.2.2.2.2.2.1 p.2.2.2.2.2.2.2.1 p.2.2.2.2.2.2.2.2
noncomputable def f_spec_Sane.l3.c : LoopCon := ⟨1000, 6, [1, 2, 7, 8, 49, 50, 51, 52], ⟨[(1, .ptr 1000 0), (2, .bool false), (7, i0), (8, i0), (49, i0), (50, .ptr 1000 0), (51, i0), (52, .bool false)], [(1000, .box [i0, bN R8, bN R9])], 1001⟩, [.bool, iI, iI, iI, iI, .bool, iI, (.sl R8), (.sl R9)], [⟨.ret, [2], ⟨[(2, .bool false)], [], 1000⟩, [.bool]⟩, ⟨.exit 6, [1, 2, 7, 8, 49, 50, 51, 52, 55, 56, 57, 58], ⟨[(1, .ptr 1000 0), (2, .bool false), (7, i0), (8, i0), (49, i0), (50, .ptr 1000 0), (51, i0), (52, .bool false), (55, i0), (56, .ptr 1000 0), (57, i0), (58, .bool false)], [(1000, .box [i0, bN R8, bN R9])], 1001⟩, [.bool, iI, iI, iI, iI, .bool, iI, iI, .bool, iI, (.sl R8), (.sl R9)]⟩], f_spec_Sane.l3.u N⟩
noncomputable abbrev K16 : Cons := [(12, C12), (69, C69), (70, C70)]
noncomputable abbrev L16 : List (Nat × Loops) := [(16, [(2, f_spec_Sane.l0.c), (10, f_spec_Sane.l1.c), (16, f_spec_Sane.l2.c), (19, f_spec_Sane.l3.c)])]
abbrev Q16 : List (Nat × List (Int × Nat) × Nat) := []
noncomputable abbrev X16 : Nat → Ctx := ctxOf tb K16 L16 Q16
theorem f_spec_Sane.l0.ok : ∀ n p, f_spec_Sane.l0.u n p = iterD (roundOf fs X16 6 16 2 false f_spec_Sane.l0.c) n p :=
 iter_of (l := f_spec_Sane.l0.u) (fun _ => rfl) (fun n p => by kernel_rfl)
theorem f_spec_Sane.l1.ok : ∀ n p, f_spec_Sane.l1.u n p = iterD (roundOf fs X16 6 16 10 false f_spec_Sane.l1.c) n p :=
 iter_of (l := f_spec_Sane.l1.u) (fun _ => rfl) (fun n p => by kernel_rfl)
theorem f_spec_Sane.l2.ok : ∀ n p, f_spec_Sane.l2.u n p = iterD (roundOf fs X16 6 16 16 false f_spec_Sane.l2.c) n p :=
 iter_of (l := f_spec_Sane.l2.u) (fun _ => rfl) (fun n p => by kernel_rfl)
theorem f_spec_Sane.l3.ok : ∀ n p, f_spec_Sane.l3.u n p = iterD (roundOf fs X16 6 16 19 false f_spec_Sane.l3.c) n p :=
 iter_of (l := f_spec_Sane.l3.u) (fun _ => rfl) (fun n p => by kernel_rfl)
theorem E16 : ∀ x, funRun fs X16 6 16 C16 x = C16.fn x := fun x => by kernel_rfl
theorem B16 : ConB Tryz.prog 16 C16 := ConB.make FS MIX TY (cons := K16) (L := L16) (ptrs := Q16) ⟨S12, S69, S70, trivial⟩ trivial ⟨⟨⟨N, fun p => f_spec_Sane.l0.ok N p⟩, ⟨N, fun p => f_spec_Sane.l1.ok N p⟩, ⟨N, fun p => f_spec_Sane.l2.ok N p⟩, ⟨N, fun p => f_spec_Sane.l3.ok N p⟩, trivial⟩, trivial⟩ rfl rfl E16
theorem S16 : ConS Tryz.prog 16 C16 := B16.call rfl
noncomputable def f_laws_FnTruth (x0 : List Int) : Option (Bool) :=
 (f_laws_big x0).bind fun y0 =>
 bif y0 then
 some true
 else
 (f_spec_DrawTruth x0).bind fun y1 =>
 (f_impl_Truth y1.1 y1.2.1 y1.2.2.1 y1.2.2.2).bind fun y2 =>
 (f_spec_DrawComing x0).bind fun y3 =>
 (f_impl_Coming y3.1 y3.2.1 y3.2.2.1 y3.2.2.2.1 y3.2.2.2.2).bind fun y4 =>
 (f_spec_DrawAlone x0).bind fun y5 =>
 (f_spec_DrawSane x0).bind fun y6 =>
 (f_spec_Truth y1.1 y1.2.1 y1.2.2.1 y1.2.2.2).bind fun y7 =>
 (f_laws_sameInts y2 y7).bind fun y8 =>
 bif (!y8) then
 some false
 else
 (f_spec_Coming y3.1 y3.2.1 y3.2.2.1 y3.2.2.2.1 y3.2.2.2.2).bind fun y9 =>
 bif (!(decide ((y4.length : Int) = (y9.length : Int)))) then
 some false
 else
 (f_impl_Alone y5.1 y5.2.1 y5.2.2.1 y5.2.2.2).bind fun y10 =>
 (f_spec_Alone y5.1 y5.2.1 y5.2.2.1 y5.2.2.2).bind fun y11 =>
 bif (!(y10 == y11)) then
 some false
 else
 (f_impl_Sane y6.1 y6.2.1 y6.2.2).bind fun y12 =>
 (f_spec_Sane y6.1 y6.2.1 y6.2.2).bind fun y13 =>
 bif (!(y12 == y13)) then
 some false
 else
 bif (decide ((0 : Int) < (y4.length : Int))) then
 bif ((decide ((0 : Int) ≤ y3.2.2.2.1)) && (decide (y3.2.2.2.1 < (y3.2.1.length : Int)))) then
 bif ((decide ((0 : Int) ≤ y3.2.2.2.2)) && (decide (y3.2.2.2.2 < (((y3.2.1.getD y3.2.2.2.1.toNat (0, [], [], [], [])).2.2.2.1).length : Int)))) then
 bif (decide ((((((y3.2.1.getD y3.2.2.2.1.toNat (0, [], [], [], [])).2.2.2.1).getD y3.2.2.2.2.toNat (0, [])).2).length : Int) < (y4.length : Int))) then
 some false
 else
 (f_impl_Sane y1.1 y1.2.1 y1.2.2.1).bind fun y14 =>
 bif (!y14) then
 some true
 else
 bif (decide (y1.2.2.2 < (0 : Int))) then
 some true
 else
 bif (decide ((6 : Int) ≤ y1.2.2.2)) then
 some true
 else
 some (decide ((y2.length : Int) = (4 : Int)))
 else none
 else none
 else
 (f_impl_Sane y1.1 y1.2.1 y1.2.2.1).bind fun y15 =>
 bif (!y15) then
 some true
 else
 bif (decide (y1.2.2.2 < (0 : Int))) then
 some true
 else
 bif (decide ((6 : Int) ≤ y1.2.2.2)) then
 some true
 else
 some (decide ((y2.length : Int) = (4 : Int)))
noncomputable def C7 : Con := ⟨[(.B, false, [(.sl R0)])], [(false, [.bool])], [(.sl R0)], [.bool], fun (p : List Int) => f_laws_FnTruth p⟩
noncomputable abbrev K7 : Cons := [(12, C12), (14, C14), (16, C16), (17, C17), (25, C25), (26, C26), (31, C31), (32, C32), (33, C33), (34, C34), (35, C35), (36, C36), (37, C37), (38, C38)]
noncomputable abbrev L7 : List (Nat × Loops) := []
abbrev Q7 : List (Nat × List (Int × Nat) × Nat) := []
noncomputable abbrev X7 : Nat → Ctx := ctxOf tb K7 L7 Q7
theorem E7 : ∀ x, funRun fs X7 6 7 C7 x = C7.fn x := fun x => by kernel_rfl
theorem B7 : ConB Tryz.prog 7 C7 := ConB.make FS MIX TY (cons := K7) (L := L7) (ptrs := Q7) ⟨S12, S14, S16, S17, S25, S26, S31, S32, S33, S34, S35, S36, S37, S38, trivial⟩ trivial trivial rfl rfl E7
theorem S7 : ConS Tryz.prog 7 C7 := B7.call rfl
/-- What is left: the plain law. -/
def Pure : Prop := ∀ x : Tup [(.sl R0)], WfT [(.sl R0)] x → C7.fn x = some (true : Bool)
end
end Go.Abs
