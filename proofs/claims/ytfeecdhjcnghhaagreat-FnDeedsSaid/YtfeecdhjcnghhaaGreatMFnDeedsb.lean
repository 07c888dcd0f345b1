import Derived.Test.YtfeecdhjcnghhaaGreatProg
import Derived.Test.YtfeecdhjcnghhaaGreatAbtF
import Derived.KernelRfl
import Derived.Test.YtfeecdhjcnghhaaGreatMFnDeedsa
namespace Go.Abs
open Go.Proofs
set_option linter.unusedVariables false
set_option maxRecDepth 100000
noncomputable section
noncomputable def f_spec_l4DrawRight.l0 : Nat → Int → Int → (List Int) → Int → Int → Int → Bool → Int → Bool → Int → Int → Bool → Int → Bool → Int → (List Int) → (List Bool) → tyW → (List Int) → (List Bool) → tyW → Option (List Int × Int × Int × Int × Bool × Int × Bool × Int × Int × Bool × Int × Bool × Int × List Int × List Bool × tyW × List Int × List Bool × tyW)
 | 0, _, _, _, _, _, _, _, _, _, _, _, _, _, _, _, _, _, _, _, _, _ => none
 | n + 1, p0, p1, p2, p3, p4, p5, p6, p7, p8, p9, p10, p11, p12, p13, p14, p15, p16, p17, p18, p19, p20 =>
 bif (decide (p1 < p0)) then
 (f_spec_l1PickInt p2 p3 p4 ([1, 2, 2, 5, 7] : List Int)).bind fun y21 =>
 bif (decide (y21.1 = (7 : Int))) then
 (f_spec_l1DrawList p2 y21.2.1 y21.2.2).bind fun y22 =>
 (f_spec_l1Below p2 y22.2.1 y22.2.2 3).bind fun y23 =>
 bif (decide (y21.1 = (7 : Int))) then
 bif (decide ((0 : Int) ≤ p10)) then
 (f_spec_HomeHear p18 p10 p19 p11 p12 p13 p14 p20 3 0 p10 y21.1 0 false y22.1).bind fun y24 =>
 f_spec_l4DrawRight.l0 n p0 (IntKind.wrap .i64 (p1 + (1 : Int))) p2 y23.2.1 y23.2.2 p5 p6 p7 p8 p9 y24.2.1 y24.2.2.2.1 y24.2.2.2.2.1 y24.2.2.2.2.2.1 y24.2.2.2.2.2.2.1 p15 p16 p17 y24.1 y24.2.2.1 y24.2.2.2.2.2.2.2.1
 else
 (f_spec_HomeHear p18 p10 p19 p11 p12 p13 p14 p20 3 0 y23.1 y21.1 0 false y22.1).bind fun y25 =>
 f_spec_l4DrawRight.l0 n p0 (IntKind.wrap .i64 (p1 + (1 : Int))) p2 y23.2.1 y23.2.2 p5 p6 p7 p8 p9 y25.2.1 y25.2.2.2.1 y25.2.2.2.2.1 y25.2.2.2.2.2.1 y25.2.2.2.2.2.2.1 p15 p16 p17 y25.1 y25.2.2.1 y25.2.2.2.2.2.2.2.1
 else
 (f_spec_HomeHear p18 p10 p19 p11 p12 p13 p14 p20 3 0 y23.1 y21.1 0 false y22.1).bind fun y26 =>
 f_spec_l4DrawRight.l0 n p0 (IntKind.wrap .i64 (p1 + (1 : Int))) p2 y23.2.1 y23.2.2 p5 p6 p7 p8 p9 y26.2.1 y26.2.2.2.1 y26.2.2.2.2.1 y26.2.2.2.2.2.1 y26.2.2.2.2.2.2.1 p15 p16 p17 y26.1 y26.2.2.1 y26.2.2.2.2.2.2.2.1
 else
 (f_spec_l1Below p2 y21.2.1 y21.2.2 3).bind fun y27 =>
 bif (decide (y21.1 = (7 : Int))) then
 bif (decide ((0 : Int) ≤ p10)) then
 (f_spec_HomeHear p18 p10 p19 p11 p12 p13 p14 p20 3 0 p10 y21.1 0 false []).bind fun y28 =>
 f_spec_l4DrawRight.l0 n p0 (IntKind.wrap .i64 (p1 + (1 : Int))) p2 y27.2.1 y27.2.2 p5 p6 p7 p8 p9 y28.2.1 y28.2.2.2.1 y28.2.2.2.2.1 y28.2.2.2.2.2.1 y28.2.2.2.2.2.2.1 p15 p16 p17 y28.1 y28.2.2.1 y28.2.2.2.2.2.2.2.1
 else
 (f_spec_HomeHear p18 p10 p19 p11 p12 p13 p14 p20 3 0 y27.1 y21.1 0 false []).bind fun y29 =>
 f_spec_l4DrawRight.l0 n p0 (IntKind.wrap .i64 (p1 + (1 : Int))) p2 y27.2.1 y27.2.2 p5 p6 p7 p8 p9 y29.2.1 y29.2.2.2.1 y29.2.2.2.2.1 y29.2.2.2.2.2.1 y29.2.2.2.2.2.2.1 p15 p16 p17 y29.1 y29.2.2.1 y29.2.2.2.2.2.2.2.1
 else
 (f_spec_HomeHear p18 p10 p19 p11 p12 p13 p14 p20 3 0 y27.1 y21.1 0 false []).bind fun y30 =>
 f_spec_l4DrawRight.l0 n p0 (IntKind.wrap .i64 (p1 + (1 : Int))) p2 y27.2.1 y27.2.2 p5 p6 p7 p8 p9 y30.2.1 y30.2.2.2.1 y30.2.2.2.2.1 y30.2.2.2.2.2.1 y30.2.2.2.2.2.2.1 p15 p16 p17 y30.1 y30.2.2.1 y30.2.2.2.2.2.2.2.1
 else
 some (p2, p3, p4, p5, p6, p7, p8, p9, p10, p11, p12, p13, p14, p15, p16, p17, p18, p19, p20)
noncomputable def f_spec_l4DrawRight (x0 : List Int) (x1 : Int) (x2 : Int) : Option (List Int × Int × List Bool × Bool × Int × Bool × Int × tyW × Int × Int) :=
 (f_spec_HomeNew 3).bind fun y0 =>
 (f_spec_l1Below x0 x1 x2 8).bind fun y1 =>
 (f_spec_l4DrawRight.l0 N y1.1 0 x0 y1.2.1 y1.2.2 0 false 0 false 0 y0.2.1 y0.2.2.2.1 y0.2.2.2.2.1 y0.2.2.2.2.2.1 y0.2.2.2.2.2.2.1 ([] : List Int) ([] : List Bool) ([] : tyW) y0.1 y0.2.2.1 y0.2.2.2.2.2.2.2).bind fun r2 =>
 some (r2.2.2.2.2.2.2.2.2.2.2.2.2.2.2.2.2.1, r2.2.2.2.2.2.2.2.2.1, r2.2.2.2.2.2.2.2.2.2.2.2.2.2.2.2.2.2.1, r2.2.2.2.2.2.2.2.2.2.1, r2.2.2.2.2.2.2.2.2.2.2.1, r2.2.2.2.2.2.2.2.2.2.2.2.1, r2.2.2.2.2.2.2.2.2.2.2.2.2.1, r2.2.2.2.2.2.2.2.2.2.2.2.2.2.2.2.2.2.2, r2.2.1, r2.2.2.1)
noncomputable def C143 : Con := ⟨[(.P [false, true, true], false, [(.sl R0), iI, iI])], [(true, [(.sl R1), iI, (.sl R2), .bool, iI, .bool, iI, (.sl R3)])], [(.sl R0), iI, iI], [(.sl R1), iI, (.sl R2), .bool, iI, .bool, iI, (.sl R3), iI, iI], ap3 f_spec_l4DrawRight⟩
noncomputable abbrev f_spec_l4DrawRight.l0.u (n : Nat) := fun (p : Int × Int × List Int × Int × Int × Int × Bool × Int × Bool × Int × Int × Bool × Int × Bool × Int × List Int × List Bool × tyW × List Int × List Bool × tyW) => f_spec_l4DrawRight.l0 n p.1 p.2.1 p.2.2.1 p.2.2.2.1 p.2.2.2.2.1 p.2.2.2.2.2.1 p.2.2.2.2.2.2.1 p.2.2.2.2.2.2.2.1 p.2.2.2.2.2.2.2.2.1 p.2.2.2.2.2.2.2.2.2.1 p.2.2.2.2.2.2.2.2.2.2.1 p.2.2.2.2.2.2.2.2.2.2.2.1 p.2.2.2.2.2.2.2.2.2.2.2.2.1 p.2.2.2.2.2.2.2.2.2.2.2.2.2.1 p.2.2.2.2.2.2.2.2.2.2.2.2.2.2.1 p.2.2.2.2.2.2.2.2.2.2.2.2.2.2.2.1 p.2.2.2.2.2.2.2.2.2.2.2.2.2.2.2.2.1 p.2.2.2.2.2.2.2.2.2.2.2.2.2.2.2.2.2.1 p.2.2.2.2.2.2.2.2.2.2.2.2.2.2.2.2.2.2.1 p.2.2.2.2.2.2.2.2.2.2.2.2.2.2.2.2.2.2.2.1 p.2.2.2.2.2.2.2.2.2.2.2.2.2.2.2.2.2.2.2.2
noncomputable def f_spec_l4DrawRight.l0.c : LoopCon := ⟨1000, 6, [0, 2, 3, 4, 5], ⟨[(0, .ptr 500 0), (2, .ptr 1000 0), (3, .ptr 1001 0), (4, i0), (5, i0)], [(500, .box [.bor (some 0) R0 [], i0, i0]), (1000, .box [.ref 1002 [] none, i0, .ref 1003 [] none, .bool false, i0, .bool false, i0, .ref 1004 [] none]), (1001, .box [.ref 1005 [] none, i0, .ref 1006 [] none, .bool false, i0, .bool false, i0, .ref 1007 [] none]), (1002, .row R1 []), (1003, .row R2 []), (1004, .row R3 []), (1005, .row R1 []), (1006, .row R2 []), (1007, .row R3 [])], 1008⟩, [iI, iI, (.sl R0), iI, iI, iI, .bool, iI, .bool, iI, iI, .bool, iI, .bool, iI, (.sl R1), (.sl R2), (.sl R3), (.sl R1), (.sl R2), (.sl R3)], [⟨.exit 0, [2, 3], ⟨[(2, .ptr 1000 0), (3, .ptr 1001 0)], [(500, .box [.bor (some 0) R0 [], i0, i0]), (1000, .box [.ref 1002 [] none, i0, .ref 1003 [] none, .bool false, i0, .bool false, i0, .ref 1004 [] none]), (1001, .box [.ref 1005 [] none, i0, .ref 1006 [] none, .bool false, i0, .bool false, i0, .ref 1007 [] none]), (1002, .row R1 []), (1003, .row R2 []), (1004, .row R3 []), (1005, .row R1 []), (1006, .row R2 []), (1007, .row R3 [])], 1008⟩, [(.sl R0), iI, iI, iI, .bool, iI, .bool, iI, iI, .bool, iI, .bool, iI, (.sl R1), (.sl R2), (.sl R3), (.sl R1), (.sl R2), (.sl R3)]⟩], f_spec_l4DrawRight.l0.u N⟩
noncomputable abbrev K143 : Cons := [(56, C56), (84, C84), (110, C110), (187, C187), (188, C188)]
noncomputable abbrev L143 : List (Nat × Loops) := [(143, [(4, f_spec_l4DrawRight.l0.c)])]
noncomputable abbrev X143 : Nat → Ctx := ctxOf tb K143 L143 Qe
theorem f_spec_l4DrawRight.l0.ok : ∀ n p, f_spec_l4DrawRight.l0.u n p = iterD (roundOf fs X143 6 143 4 false f_spec_l4DrawRight.l0.c) n p :=
 iter_of (l := f_spec_l4DrawRight.l0.u) (fun _ => rfl) (fun n p => by kernel_rfl)
theorem E143 : ∀ x, funG fs X143 6 143 C143 x = C143.fn x := fun x => by kernel_rfl
theorem B143 : ConG Tryz.prog 143 C143 := ConG.make FS MIX TY (cons := K143) (L := L143) (ptrs := Qe) ⟨S56, S84, S110, S187, S188, trivial⟩ trivial ⟨⟨⟨N, fun p => f_spec_l4DrawRight.l0.ok N p⟩, trivial⟩, trivial⟩ rfl (by kernel_rfl) E143
theorem S143 : ConS Tryz.prog 143 C143 := B143.call (by kernel_rfl)
noncomputable def f_spec_l4Draw.l0 : Nat → (List Int) → Int → Int → Int → Bool → Int → Bool → Int → Int → Bool → Int → Bool → Int → (List Int) → (List Bool) → tyW → (List Int) → (List Bool) → tyW → Option (List Int × Int × Int × Int × Bool × Int × Bool × Int × Int × Bool × Int × Bool × Int × List Int × List Bool × tyW × List Int × List Bool × tyW)
 | 0, _, _, _, _, _, _, _, _, _, _, _, _, _, _, _, _, _, _, _ => none
 | n + 1, p0, p1, p2, p3, p4, p5, p6, p7, p8, p9, p10, p11, p12, p13, p14, p15, p16, p17, p18 =>
 (f_spec_l1Below p0 p1 p2 2).bind fun y19 =>
 bif (decide ((p18.length : Int) < (IntKind.wrap .i64 ((12 : Int) + y19.1)))) then
 bif (Nat.blt (p18.length + ([(0, false)] : tyW).length) 8796093022208) then
 (some ((p18 ++ ([(0, false)] : tyW)) : tyW)).bind fun z20 =>
 f_spec_l4Draw.l0 n p0 y19.2.1 y19.2.2 p3 p4 p5 p6 p7 p8 p9 p10 p11 p12 p13 p14 p15 p16 p17 z20
 else none
 else
 some (p0, y19.2.1, y19.2.2, p3, p4, p5, p6, p7, p8, p9, p10, p11, p12, p13, p14, p15, p16, p17, p18)
noncomputable def f_spec_l4Draw (x0 : List Int) (x1 : Int) (x2 : Int) : Option (List Int × Int × List Bool × Bool × Int × Bool × Int × tyW × Int × Int) :=
 (f_spec_l4DrawRight x0 x1 x2).bind fun y0 =>
 (f_spec_l1Below x0 y0.2.2.2.2.2.2.2.2.1 y0.2.2.2.2.2.2.2.2.2 15).bind fun y1 =>
 bif (decide (y1.1 = (0 : Int))) then
 (f_spec_l1PickInt x0 y1.2.1 y1.2.2 ([-2, -1, 2, 3] : List Int)).bind fun y2 =>
 some (y0.1, y2.1, y0.2.2.1, y0.2.2.2.1, y0.2.2.2.2.1, y0.2.2.2.2.2.1, y0.2.2.2.2.2.2.1, y0.2.2.2.2.2.2.2.1, y2.2.1, y2.2.2)
 else
 bif (decide (y1.1 = (1 : Int))) then
 (f_spec_l1PickInt x0 y1.2.1 y1.2.2 ([-1, 0, 1, 4] : List Int)).bind fun y3 =>
 some (y0.1, y0.2.1, y0.2.2.1, y0.2.2.2.1, y0.2.2.2.2.1, y0.2.2.2.2.2.1, y3.1, y0.2.2.2.2.2.2.2.1, y3.2.1, y3.2.2)
 else
 bif (decide (y1.1 = (2 : Int))) then
 bif (Nat.blt (y0.2.2.1.length + ([true] : List Bool).length) 140737488355328) then
 (some ((y0.2.2.1 ++ ([true] : List Bool)) : List Bool)).bind fun z4 =>
 some (y0.1, y0.2.1, z4, y0.2.2.2.1, y0.2.2.2.2.1, y0.2.2.2.2.2.1, y0.2.2.2.2.2.2.1, y0.2.2.2.2.2.2.2.1, y1.2.1, y1.2.2)
 else none
 else
 bif (decide (y1.1 = (3 : Int))) then
 (f_spec_l1Below x0 y1.2.1 y1.2.2 5).bind fun y5 =>
 bif (Nat.blt (y0.2.2.2.2.2.2.2.1.length + ([(y5.1, false)] : tyW).length) 8796093022208) then
 (some ((y0.2.2.2.2.2.2.2.1 ++ ([(y5.1, false)] : tyW)) : tyW)).bind fun z6 =>
 some (y0.1, y0.2.1, y0.2.2.1, y0.2.2.2.1, y0.2.2.2.2.1, y0.2.2.2.2.2.1, y0.2.2.2.2.2.2.1, z6, y5.2.1, y5.2.2)
 else none
 else
 bif (decide (y1.1 = (4 : Int))) then
 some (y0.1, y0.2.1, y0.2.2.1, (!y0.2.2.2.1), y0.2.2.2.2.1, y0.2.2.2.2.2.1, y0.2.2.2.2.2.2.1, y0.2.2.2.2.2.2.2.1, y1.2.1, y1.2.2)
 else
 bif (decide (y1.1 = (5 : Int))) then
 (f_spec_l4Draw.l0 N x0 y1.2.1 y1.2.2 0 false 0 false 0 y0.2.1 y0.2.2.2.1 y0.2.2.2.2.1 y0.2.2.2.2.2.1 y0.2.2.2.2.2.2.1 ([] : List Int) ([] : List Bool) ([] : tyW) y0.1 y0.2.2.1 y0.2.2.2.2.2.2.2.1).bind fun r7 =>
 some (r7.2.2.2.2.2.2.2.2.2.2.2.2.2.2.2.2.1, r7.2.2.2.2.2.2.2.2.1, r7.2.2.2.2.2.2.2.2.2.2.2.2.2.2.2.2.2.1, r7.2.2.2.2.2.2.2.2.2.1, r7.2.2.2.2.2.2.2.2.2.2.1, r7.2.2.2.2.2.2.2.2.2.2.2.1, r7.2.2.2.2.2.2.2.2.2.2.2.2.1, r7.2.2.2.2.2.2.2.2.2.2.2.2.2.2.2.2.2.2, r7.2.1, r7.2.2.1)
 else
 some (y0.1, y0.2.1, y0.2.2.1, y0.2.2.2.1, y0.2.2.2.2.1, y0.2.2.2.2.2.1, y0.2.2.2.2.2.2.1, y0.2.2.2.2.2.2.2.1, y1.2.1, y1.2.2)
noncomputable def C83 : Con := ⟨[(.P [false, true, true], false, [(.sl R0), iI, iI])], [(true, [(.sl R1), iI, (.sl R2), .bool, iI, .bool, iI, (.sl R3)])], [(.sl R0), iI, iI], [(.sl R1), iI, (.sl R2), .bool, iI, .bool, iI, (.sl R3), iI, iI], ap3 f_spec_l4Draw⟩
noncomputable abbrev f_spec_l4Draw.l0.u (n : Nat) := ap19 (f_spec_l4Draw.l0 n)
noncomputable def f_spec_l4Draw.l0.c : LoopCon := ⟨1000, 6, [0, 2, 3], ⟨[(0, .ptr 500 0), (2, .ptr 1000 0), (3, .ptr 1001 0)], [(500, .box [.bor (some 0) R0 [], i0, i0]), (1000, .box [.ref 1002 [] none, i0, .ref 1003 [] none, .bool false, i0, .bool false, i0, .ref 1004 [] none]), (1001, .box [.ref 1005 [] none, i0, .ref 1006 [] none, .bool false, i0, .bool false, i0, .ref 1007 [] none]), (1002, .row R1 []), (1003, .row R2 []), (1004, .row R3 []), (1005, .row R1 []), (1006, .row R2 []), (1007, .row R3 [])], 1008⟩, [(.sl R0), iI, iI, iI, .bool, iI, .bool, iI, iI, .bool, iI, .bool, iI, (.sl R1), (.sl R2), (.sl R3), (.sl R1), (.sl R2), (.sl R3)], [⟨.exit 1, [2, 3], ⟨[(2, .ptr 1000 0), (3, .ptr 1001 0)], [(500, .box [.bor (some 0) R0 [], i0, i0]), (1000, .box [.ref 1002 [] none, i0, .ref 1003 [] none, .bool false, i0, .bool false, i0, .ref 1004 [] none]), (1001, .box [.ref 1005 [] none, i0, .ref 1006 [] none, .bool false, i0, .bool false, i0, .ref 1007 [] none]), (1002, .row R1 []), (1003, .row R2 []), (1004, .row R3 []), (1005, .row R1 []), (1006, .row R2 []), (1007, .row R3 [])], 1008⟩, [(.sl R0), iI, iI, iI, .bool, iI, .bool, iI, iI, .bool, iI, .bool, iI, (.sl R1), (.sl R2), (.sl R3), (.sl R1), (.sl R2), (.sl R3)]⟩], f_spec_l4Draw.l0.u N⟩
noncomputable abbrev K83 : Cons := [(56, C56), (84, C84), (143, C143)]
noncomputable abbrev L83 : List (Nat × Loops) := [(83, [(14, f_spec_l4Draw.l0.c)])]
noncomputable abbrev X83 : Nat → Ctx := ctxOf tb K83 L83 Qe
theorem f_spec_l4Draw.l0.ok : ∀ n p, f_spec_l4Draw.l0.u n p = iterD (roundOf fs X83 6 83 14 false f_spec_l4Draw.l0.c) n p :=
 iter_of (l := f_spec_l4Draw.l0.u) (fun _ => rfl) (fun n p => by kernel_rfl)
theorem E83 : ∀ x, funG fs X83 6 83 C83 x = C83.fn x := fun x => by kernel_rfl
theorem B83 : ConG Tryz.prog 83 C83 := ConG.make FS MIX TY (cons := K83) (L := L83) (ptrs := Qe) ⟨S56, S84, S143, trivial⟩ trivial ⟨⟨⟨N, fun p => f_spec_l4Draw.l0.ok N p⟩, trivial⟩, trivial⟩ rfl (by kernel_rfl) E83
theorem S83 : ConS Tryz.prog 83 C83 := B83.call (by kernel_rfl)
noncomputable def f_spec_l6Draw (x0 : List Int) (x1 : Int) (x2 : Int) : Option (Int × tyN × tyP × Int × Int) :=
 (f_spec_l6DrawRight x0 x1 x2).bind fun y0 =>
 (f_spec_l1Below x0 y0.2.2.2.1 y0.2.2.2.2 18).bind fun y1 =>
 bif (decide (y1.1 = (0 : Int))) then
 (f_spec_l1Below x0 y1.2.1 y1.2.2 6).bind fun y2 =>
 some (y2.1, y0.2.1, y0.2.2.1, y2.2.1, y2.2.2)
 else
 bif (decide (y1.1 = (1 : Int))) then
 bif (decide ((0 : Int) < (y0.2.1.length : Int))) then
 (f_spec_l3Draw x0 y1.2.1 y1.2.2).bind fun y3 =>
 bif (decide ((0 : Int) < (((y0.2.1.getD 0 (0, [], [], [], [])).2.1).length : Int))) then
 (some ((y0.2.1.set 0 ((y0.2.1.getD 0 (0, [], [], [], [])).1, (((y0.2.1.getD 0 (0, [], [], [], [])).2.1).set 0 (y3.1, y3.2.1, y3.2.2.1)), (y0.2.1.getD 0 (0, [], [], [], [])).2.2.1, (y0.2.1.getD 0 (0, [], [], [], [])).2.2.2.1, (y0.2.1.getD 0 (0, [], [], [], [])).2.2.2.2)) : tyN)).bind fun z4 =>
 some (y0.1, z4, y0.2.2.1, y3.2.2.2.1, y3.2.2.2.2)
 else none
 else none
 else
 bif (decide (y1.1 = (2 : Int))) then
 (f_spec_l1Below x0 y1.2.1 y1.2.2 4).bind fun y5 =>
 (f_spec_l1Draw x0 y5.2.1 y5.2.2).bind fun y6 =>
 bif (Nat.blt (y0.2.2.1.length + ([(y5.1, 0, false, 0, y6.1, y6.2.1, y6.2.2.1, y6.2.2.2.1)] : tyP).length) 1759218604441) then
 (some ((y0.2.2.1 ++ ([(y5.1, 0, false, 0, y6.1, y6.2.1, y6.2.2.1, y6.2.2.2.1)] : tyP)) : tyP)).bind fun z7 =>
 some (y0.1, y0.2.1, z7, y6.2.2.2.2.1, y6.2.2.2.2.2)
 else none
 else
 bif (decide (y1.1 = (3 : Int))) then
 bif (decide ((0 : Int) < (y0.2.1.length : Int))) then
 (f_spec_l4Draw x0 y1.2.1 y1.2.2).bind fun y8 =>
 bif (decide ((0 : Int) < (((y0.2.1.getD 0 (0, [], [], [], [])).2.2.1).length : Int))) then
 (some ((y0.2.1.set 0 ((y0.2.1.getD 0 (0, [], [], [], [])).1, (y0.2.1.getD 0 (0, [], [], [], [])).2.1, (((y0.2.1.getD 0 (0, [], [], [], [])).2.2.1).set 0 (y8.1, y8.2.1, y8.2.2.1, y8.2.2.2.1, y8.2.2.2.2.1, y8.2.2.2.2.2.1, y8.2.2.2.2.2.2.1, y8.2.2.2.2.2.2.2.1)), (y0.2.1.getD 0 (0, [], [], [], [])).2.2.2.1, (y0.2.1.getD 0 (0, [], [], [], [])).2.2.2.2)) : tyN)).bind fun z9 =>
 some (y0.1, z9, y0.2.2.1, y8.2.2.2.2.2.2.2.2.1, y8.2.2.2.2.2.2.2.2.2)
 else none
 else none
 else
 bif (decide (y1.1 = (4 : Int))) then
 bif (decide ((0 : Int) < (y0.2.1.length : Int))) then
 bif (decide ((0 : Int) < (((y0.2.1.getD 0 (0, [], [], [], [])).2.2.2.2).length : Int))) then
 (some ((y0.2.1.set 0 ((y0.2.1.getD 0 (0, [], [], [], [])).1, (y0.2.1.getD 0 (0, [], [], [], [])).2.1, (y0.2.1.getD 0 (0, [], [], [], [])).2.2.1, (y0.2.1.getD 0 (0, [], [], [], [])).2.2.2.1, (((y0.2.1.getD 0 (0, [], [], [], [])).2.2.2.2).set 0 9))) : tyN)).bind fun z10 =>
 some (y0.1, z10, y0.2.2.1, y1.2.1, y1.2.2)
 else none
 else none
 else
 some (y0.1, y0.2.1, y0.2.2.1, y1.2.1, y1.2.2)
noncomputable def C44 : Con := ⟨[(.P [false, true, true], false, [(.sl R0), iI, iI])], [(true, [iI, (.sl R8), (.sl R9)])], [(.sl R0), iI, iI], [iI, (.sl R8), (.sl R9), iI, iI], ap3 f_spec_l6Draw⟩
noncomputable abbrev K44 : Cons := [(56, C56), (80, C80), (81, C81), (82, C82), (83, C83)]
noncomputable abbrev X44 : Nat → Ctx := ctxOf tb K44 Le Qe
theorem E44 : ∀ x, funG fs X44 6 44 C44 x = C44.fn x := fun x => by kernel_rfl
theorem B44 : ConG Tryz.prog 44 C44 := ConG.make FS MIX TY (cons := K44) (L := Le) (ptrs := Qe) ⟨S56, S80, S81, S82, S83, trivial⟩ trivial trivial rfl (by kernel_rfl) E44
theorem S44 : ConS Tryz.prog 44 C44 := B44.call (by kernel_rfl)
noncomputable def f_spec_l6Spoil (x0 : List Int) (x1 : Int) (x2 : Int) (x3 : Int) (x4 : Int) (x5 : Int) (x6 : Int) : Option (Int × Int × Int × Int × Int × Int) :=
 (f_spec_l1Below x0 x1 x2 15).bind fun y0 =>
 bif (decide (y0.1 = (0 : Int))) then
 (f_spec_l1Below x0 y0.2.1 y0.2.2 9).bind fun y1 =>
 some ((IntKind.wrap .i64 (y1.1 - (1 : Int))), x4, x5, x6, y1.2.1, y1.2.2)
 else
 bif (decide (y0.1 = (1 : Int))) then
 (f_spec_l1PickInt x0 y0.2.1 y0.2.2 ([-1, 4, 9223372036854775807] : List Int)).bind fun y2 =>
 some (x3, y2.1, x5, x6, y2.2.1, y2.2.2)
 else
 bif (decide (y0.1 = (2 : Int))) then
 (f_spec_l1PickInt x0 y0.2.1 y0.2.2 ([-1, 4, 9223372036854775807] : List Int)).bind fun y3 =>
 some (x3, x4, y3.1, x6, y3.2.1, y3.2.2)
 else
 bif (decide (y0.1 = (3 : Int))) then
 (f_spec_l1PickInt x0 y0.2.1 y0.2.2 ([-1, 9, 9223372036854775807] : List Int)).bind fun y4 =>
 some (x3, x4, x5, y4.1, y4.2.1, y4.2.2)
 else
 some (x3, x4, x5, x6, y0.2.1, y0.2.2)
noncomputable def C45 : Con := ⟨[(.P [false, true, true], false, [(.sl R0), iI, iI]), (.B, true, [iI, iI, iI, iI])], [(true, [iI, iI, iI, iI])], [(.sl R0), iI, iI, iI, iI, iI, iI], [iI, iI, iI, iI, iI, iI], ap7 f_spec_l6Spoil⟩
noncomputable abbrev K45 : Cons := [(56, C56), (84, C84)]
noncomputable abbrev X45 : Nat → Ctx := ctxOf tb K45 Le Qe
theorem E45 : ∀ x, funG fs X45 6 45 C45 x = C45.fn x := fun x => by kernel_rfl
theorem B45 : ConG Tryz.prog 45 C45 := ConG.make FS MIX TY (cons := K45) (L := Le) (ptrs := Qe) ⟨S56, S84, trivial⟩ trivial trivial rfl (by kernel_rfl) E45
theorem S45 : ConS Tryz.prog 45 C45 := B45.call (by kernel_rfl)
noncomputable def f_spec_DrawWorldDo.l0 : Nat → (List Int) → Int → Int → Int → Int → Int → Int → Int → Option (List Int × Int × Int × Int × Int × Int × Int)
 | 0, _, _, _, _, _, _, _, _ => none
 | n + 1, p0, p1, p2, p3, p4, p5, p6, p7 =>
 bif (decide (p2 < (p0.length : Int))) then
 bif (decide (p2 < (4000 : Int))) then
 bif ((decide ((0 : Int) ≤ p2)) && (decide (p2 < (p0.length : Int)))) then
 f_spec_DrawWorldDo.l0 n p0 (bitI .and .i64 (IntKind.wrap .i64 ((IntKind.wrap .i64 ((IntKind.wrap .i64 (p1 * (131 : Int))) + (IntKind.wrap .i64 ((p0.getD p2.toNat 0))))) + (7 : Int))) (1073741823 : Int)) (IntKind.wrap .i64 (p2 + (1 : Int))) p3 p4 p5 p6 p7
 else none
 else
 some (p0, p1, p3, p4, p5, p6, p7)
 else
 some (p0, p1, p3, p4, p5, p6, p7)
noncomputable def f_spec_DrawWorldDo (x0 : List Int) : Option (Int × tyN × tyP × Int × Int × Int × Int) :=
 (f_spec_DrawWorldDo.l0 N x0 (IntKind.wrap .i64 ((20404 : Int) + (x0.length : Int))) 0 0 0 0 0 0).bind fun r0 =>
 (f_spec_l6Draw r0.1 0 r0.2.1).bind fun y1 =>
 (f_spec_l6DrawDeed r0.1 y1.2.2.2.1 y1.2.2.2.2 y1.1 y1.2.1 y1.2.2.1).bind fun y2 =>
 (f_spec_l6Spoil r0.1 y2.2.2.2.2.1 y2.2.2.2.2.2 y2.1 y2.2.1 y2.2.2.1 y2.2.2.2.1).bind fun y3 =>
 some (y1.1, y1.2.1, y1.2.2.1, y3.1, y3.2.1, y3.2.2.1, y3.2.2.2.1)
noncomputable def C14 : Con := ⟨[(.B, false, [(.sl R0)])], [(true, [iI, (.sl R8), (.sl R9)]), (true, [iI, iI, iI, iI])], [(.sl R0)], [iI, (.sl R8), (.sl R9), iI, iI, iI, iI], fun (p : List Int) => f_spec_DrawWorldDo p⟩
noncomputable abbrev f_spec_DrawWorldDo.l0.u (n : Nat) := ap8 (f_spec_DrawWorldDo.l0 n)
noncomputable def f_spec_DrawWorldDo.l0.c : LoopCon := ⟨1081, 5, [0, 3, 4], ⟨[(0, bN R0), (3, i0), (4, i0)], [(1001, .box [i0, .nil (some R8), .nil (some R9)]), (1017, .box [i0, i0, i0, i0])], 1081⟩, [(.sl R0), iI, iI, iI, iI, iI, iI, iI], [⟨.exit 0, [0, 3], ⟨[(0, bN R0), (3, i0)], [(1001, .box [i0, .nil (some R8), .nil (some R9)]), (1017, .box [i0, i0, i0, i0])], 1081⟩, [(.sl R0), iI, iI, iI, iI, iI, iI]⟩], f_spec_DrawWorldDo.l0.u N⟩
noncomputable abbrev K14 : Cons := [(44, C44), (45, C45), (46, C46)]
noncomputable abbrev L14 : List (Nat × Loops) := [(36, [(3, f_spec_DrawWorldDo.l0.c)])]
noncomputable abbrev X14 : Nat → Ctx := ctxOf tb K14 L14 Qe
theorem f_spec_DrawWorldDo.l0.ok : ∀ n p, f_spec_DrawWorldDo.l0.u n p = iterD (roundOf fs X14 5 36 3 true f_spec_DrawWorldDo.l0.c) n p :=
 iter_of (l := f_spec_DrawWorldDo.l0.u) (fun _ => rfl) (fun n p => by kernel_rfl)
theorem E14 : ∀ x, funRun fs X14 6 14 C14 x = C14.fn x := fun x => by kernel_rfl
theorem B14 : ConB Tryz.prog 14 C14 := ConB.make FS MIX TY (cons := K14) (L := L14) (ptrs := Qe) ⟨S44, S45, S46, trivial⟩ trivial ⟨⟨⟨N, fun p => f_spec_DrawWorldDo.l0.ok N p⟩, trivial⟩, trivial⟩ rfl rfl E14
theorem S14 : ConS Tryz.prog 14 C14 := B14.call rfl
noncomputable def f_impl_from (x0 : Int) (x1 : Int) (x2 : Int) : Option (Bool) :=
 bif (decide (x1 ≤ x0)) then
 some (decide (x0 ≤ x2))
 else
 some false
noncomputable def C49 : Con := ⟨[(.B, false, [iI]), (.B, false, [iI]), (.B, false, [iI])], [(false, [.bool])], [iI, iI, iI], [.bool], ap3 f_impl_from⟩
noncomputable abbrev X49 : Nat → Ctx := ctxOf tb Ke Le Qe
theorem E49 : ∀ x, funRun fs X49 6 49 C49 x = C49.fn x := fun x => by kernel_rfl
theorem B49 : ConB Tryz.prog 49 C49 := ConB.make FS MIX TY (cons := Ke) (L := Le) (ptrs := Qe) trivial trivial trivial rfl rfl E49
theorem S49 : ConS Tryz.prog 49 C49 := B49.call rfl
noncomputable def f_impl_isOf (x0 : Int) (x1 : Int) : Option (Bool) :=
 (f_impl_from x1 1 4).bind fun y0 =>
 bif y0 then
 (f_impl_from x0 0 (IntKind.wrap .i64 (x1 - (1 : Int)))).bind fun y1 =>
 some y1
 else
 some false
noncomputable def C89 : Con := ⟨[(.B, false, [iI]), (.B, false, [iI])], [(false, [.bool])], [iI, iI], [.bool], ap2 f_impl_isOf⟩
noncomputable abbrev K89 : Cons := [(49, C49)]
noncomputable abbrev X89 : Nat → Ctx := ctxOf tb K89 Le Qe
theorem E89 : ∀ x, funRun fs X89 6 89 C89 x = C89.fn x := fun x => by kernel_rfl
theorem B89 : ConB Tryz.prog 89 C89 := ConB.make FS MIX TY (cons := K89) (L := Le) (ptrs := Qe) ⟨S49, trivial⟩ trivial trivial rfl rfl E89
theorem S89 : ConS Tryz.prog 89 C89 := B89.call rfl
noncomputable def f_impl_isWord (x0 : Int) : Option (Bool) :=
 (f_impl_from x0 0 65535).bind fun y0 =>
 some y0
noncomputable def C194 : Con := ⟨[(.B, false, [iI])], [(false, [.bool])], [iI], [.bool], fun (p : Int) => f_impl_isWord p⟩
noncomputable abbrev K194 : Cons := [(49, C49)]
noncomputable abbrev X194 : Nat → Ctx := ctxOf tb K194 Le Qe
theorem E194 : ∀ x, funRun fs X194 6 194 C194 x = C194.fn x := fun x => by kernel_rfl
theorem B194 : ConB Tryz.prog 194 C194 := ConB.make FS MIX TY (cons := K194) (L := Le) (ptrs := Qe) ⟨S49, trivial⟩ trivial trivial rfl rfl E194
theorem S194 : ConS Tryz.prog 194 C194 := B194.call rfl
noncomputable def f_impl_wordsOk_1 (x0 : Int) : Option (Bool) :=
 (f_impl_isWord x0).bind fun y0 =>
 some (!y0)
noncomputable def C193 : Con := ⟨[(.B, false, [iI])], [(false, [.bool])], [iI], [.bool], fun (p : Int) => f_impl_wordsOk_1 p⟩
noncomputable abbrev K193 : Cons := [(194, C194)]
noncomputable abbrev X193 : Nat → Ctx := ctxOf tb K193 Le Qe
theorem E193 : ∀ x, funRun fs X193 6 193 C193 x = C193.fn x := fun x => by kernel_rfl
theorem B193 : ConB Tryz.prog 193 C193 := ConB.make FS MIX TY (cons := K193) (L := Le) (ptrs := Qe) ⟨S194, trivial⟩ trivial trivial rfl rfl E193
theorem S193 : ConS Tryz.prog 193 C193 := B193.call rfl
noncomputable def f_impl_wordsOk.l0 : Nat → (List Int) → Int → Int → Int → Option ((Int) ⊕ (Int))
 | 0, _, _, _, _ => none
 | n + 1, p0, p1, p2, p3 =>
 bif (decide (p3 < p2)) then
 bif ((decide ((0 : Int) ≤ p3)) && (decide (p3 < (p0.length : Int)))) then
 (f_impl_wordsOk_1 (p0.getD p3.toNat 0)).bind fun y4 =>
 bif y4 then
 some (.inl p3)
 else
 f_impl_wordsOk.l0 n p0 p1 p2 (IntKind.wrap .i64 (p3 + (1 : Int)))
 else none
 else
 some (.inr p1)
noncomputable def f_impl_wordsOk (x0 : List Int) (x1 : Int) : Option (Bool) :=
 bif (decide ((x0.length : Int) = x1)) then
 (f_impl_wordsOk.l0 N x0 0 (x0.length : Int) 0).bind fun r0 =>
 cs r0 (fun a1 =>
 some (!(decide ((0 : Int) ≤ a1)))) (fun b2 =>
 some true)
 else
 some false
noncomputable def C149 : Con := ⟨[(.B, false, [(.sl R1)]), (.B, false, [iI])], [(false, [.bool])], [(.sl R1), iI], [.bool], ap2 f_impl_wordsOk⟩
noncomputable abbrev f_impl_wordsOk.l0.u (n : Nat) := ap4 (f_impl_wordsOk.l0 n)
noncomputable def f_impl_wordsOk.l0.c : LoopCon := ⟨1274, 4, [0, 1, 4, 7, 8], ⟨[(0, bN R1), (1, .func 193 []), (4, i0), (7, i0), (8, i0)], [], 1274⟩, [(.sl R1), iI, iI, iI], [⟨.ret, [4], ⟨[(4, i0)], [], 1274⟩, [iI]⟩, ⟨.exit 0, [4], ⟨[(4, i0)], [], 1274⟩, [iI]⟩], f_impl_wordsOk.l0.u N⟩
noncomputable abbrev K149 : Cons := [(193, C193)]
noncomputable abbrev L149 : List (Nat × Loops) := [(216, [(2, f_impl_wordsOk.l0.c)])]
noncomputable abbrev X149 : Nat → Ctx := ctxOf tb K149 L149 Qe
theorem f_impl_wordsOk.l0.ok : ∀ n p, f_impl_wordsOk.l0.u n p = iterD (roundOf fs X149 4 216 2 true f_impl_wordsOk.l0.c) n p :=
 iter_of (l := f_impl_wordsOk.l0.u) (fun _ => rfl) (fun n p => by kernel_rfl)
theorem E149 : ∀ x, funRun fs X149 6 149 C149 x = C149.fn x := fun x => by kernel_rfl
theorem B149 : ConB Tryz.prog 149 C149 := ConB.make FS MIX TY (cons := K149) (L := L149) (ptrs := Qe) ⟨S193, trivial⟩ trivial ⟨⟨⟨N, fun p => f_impl_wordsOk.l0.ok N p⟩, trivial⟩, trivial⟩ rfl rfl E149
theorem S149 : ConS Tryz.prog 149 C149 := B149.call rfl
noncomputable def f_impl_FrameOk (x0 : Int) (x1 : List Int) (x2 : Bool) : Option (Bool) :=
 bif (decide (x0 = (0 : Int))) then
 some (decide ((x1.length : Int) = (0 : Int)))
 else
 bif (decide (x0 = (1 : Int))) then
 (f_impl_wordsOk x1 4).bind fun y0 =>
 some y0
 else
 bif (decide (x0 = (2 : Int))) then
 (f_impl_wordsOk x1 4).bind fun y1 =>
 some y1
 else
 some false
noncomputable def C92 : Con := ⟨[(.B, true, [iI, (.sl R1), .bool])], [(false, [.bool])], [iI, (.sl R1), .bool], [.bool], ap3 f_impl_FrameOk⟩
noncomputable abbrev K92 : Cons := [(149, C149)]
noncomputable abbrev X92 : Nat → Ctx := ctxOf tb K92 Le Qe
theorem E92 : ∀ x, funRun fs X92 6 92 C92 x = C92.fn x := fun x => by kernel_rfl
theorem B92 : ConB Tryz.prog 92 C92 := ConB.make FS MIX TY (cons := K92) (L := Le) (ptrs := Qe) ⟨S149, trivial⟩ trivial trivial rfl rfl E92
theorem S92 : ConS Tryz.prog 92 C92 := B92.call rfl
noncomputable def f_impl_NodeOk_1 (x0 : Int) (x1 : List Int) (x2 : Bool) : Option (Bool) :=
 (f_impl_FrameOk x0 x1 x2).bind fun y0 =>
 some (!y0)
noncomputable def C91 : Con := ⟨[(.B, true, [iI, (.sl R1), .bool])], [(false, [.bool])], [iI, (.sl R1), .bool], [.bool], ap3 f_impl_NodeOk_1⟩
noncomputable abbrev K91 : Cons := [(92, C92)]
noncomputable abbrev X91 : Nat → Ctx := ctxOf tb K91 Le Qe
theorem E91 : ∀ x, funRun fs X91 6 91 C91 x = C91.fn x := fun x => by kernel_rfl
theorem B91 : ConB Tryz.prog 91 C91 := ConB.make FS MIX TY (cons := K91) (L := Le) (ptrs := Qe) ⟨S92, trivial⟩ trivial trivial rfl rfl E91
theorem S91 : ConS Tryz.prog 91 C91 := B91.call rfl
noncomputable def f_impl_HomeOk_1 (x0 : Int) (x1 : Bool) (x2 : Int) : Option (Bool) :=
 (f_impl_isOf x0 x2).bind fun y0 =>
 some (!y0)
noncomputable def C152 : Con := ⟨[(.B, true, [iI, .bool]), (.Q, false, [iI])], [(false, [.bool])], [iI, .bool, iI], [.bool], ap3 f_impl_HomeOk_1⟩
noncomputable abbrev K152 : Cons := [(89, C89)]
noncomputable abbrev X152 : Nat → Ctx := ctxOf tb K152 Le Qe
theorem E152 : ∀ x, funG fs X152 6 152 C152 x = C152.fn x := fun x => by kernel_rfl
theorem B152 : ConG Tryz.prog 152 C152 := ConG.make FS MIX TY (cons := K152) (L := Le) (ptrs := Qe) ⟨S89, trivial⟩ trivial trivial rfl (by kernel_rfl) E152
theorem S152 : ConS Tryz.prog 152 C152 := B152.call (by kernel_rfl)
noncomputable def f_impl_HomeOk.l0 : Nat → tyW → Int → Int → Int → (List Int) → Int → (List Bool) → Bool → Int → Bool → Int → tyW → Int → Option ((Int × List Int × Int × List Bool × Bool × Int × Bool × Int × tyW × Int) ⊕ (Int × List Int × Int × List Bool × Bool × Int × Bool × Int × tyW × Int))
 | 0, _, _, _, _, _, _, _, _, _, _, _, _, _ => none
 | n + 1, p0, p1, p2, p3, p4, p5, p6, p7, p8, p9, p10, p11, p12 =>
 bif (decide (p3 < p2)) then
 bif ((decide ((0 : Int) ≤ p3)) && (decide (p3 < (p0.length : Int)))) then
 (f_impl_HomeOk_1 ((p0.getD p3.toNat (0, false)).1) ((p0.getD p3.toNat (0, false)).2) p12).bind fun y13 =>
 bif y13 then
 some (.inl (p3, p4, p5, p6, p7, p8, p9, p10, p11, p12))
 else
 f_impl_HomeOk.l0 n p0 p1 p2 (IntKind.wrap .i64 (p3 + (1 : Int))) p4 p5 p6 p7 p8 p9 p10 p11 p12
 else none
 else
 some (.inr (p1, p4, p5, p6, p7, p8, p9, p10, p11, p12))
noncomputable def f_impl_HomeOk (x0 : List Int) (x1 : Int) (x2 : List Bool) (x3 : Bool) (x4 : Int) (x5 : Bool) (x6 : Int) (x7 : tyW) (x8 : Int) : Option (Bool) :=
 (f_impl_from x8 1 4).bind fun y0 =>
 bif y0 then
 (f_impl_wordsOk x0 4).bind fun y1 =>
 bif y1 then
 (f_impl_from x1 (-1) (IntKind.wrap .i64 (x8 - (1 : Int)))).bind fun y2 =>
 bif y2 then
 bif (decide ((x2.length : Int) = x8)) then
 (f_impl_isOf x4 x8).bind fun y3 =>
 bif y3 then
 (f_impl_from x6 0 x8).bind fun y4 =>
 bif y4 then
 bif (decide ((x7.length : Int) ≤ (12 : Int))) then
 (f_impl_HomeOk.l0 N x7 0 (x7.length : Int) 0 x0 x1 x2 x3 x4 x5 x6 x7 x8).bind fun r5 =>
 cs r5 (fun a6 =>
 some (!(decide ((0 : Int) ≤ a6.1)))) (fun b7 =>
 some true)
 else
 some false
 else
 some false
 else
 some false
 else
 some false
 else
 some false
 else
 some false
 else
 some false
noncomputable def C95 : Con := ⟨[(.B, true, [(.sl R1), iI, (.sl R2), .bool, iI, .bool, iI, (.sl R3)]), (.B, false, [iI])], [(false, [.bool])], [(.sl R1), iI, (.sl R2), .bool, iI, .bool, iI, (.sl R3), iI], [.bool], ap9 f_impl_HomeOk⟩
noncomputable abbrev f_impl_HomeOk.l0.u (n : Nat) := ap13 (f_impl_HomeOk.l0 n)
noncomputable def f_impl_HomeOk.l0.c : LoopCon := ⟨1921, 4, [0, 1, 4, 7, 8], ⟨[(0, bN R3), (1, .func 152 [.ptr 1025 0]), (4, i0), (7, i0), (8, i0)], [(1009, .box [.bor (some 0) R1 [], i0, .bor (some 2) R2 [], .bool false, i0, .bool false, i0, .bor (some 7) R3 []]), (1025, .box [i0])], 1921⟩, [(.sl R3), iI, iI, iI, (.sl R1), iI, (.sl R2), .bool, iI, .bool, iI, (.sl R3), iI], [⟨.ret, [4], ⟨[(4, i0)], [(1009, .box [.bor (some 0) R1 [], i0, .bor (some 2) R2 [], .bool false, i0, .bool false, i0, .bor (some 7) R3 []]), (1025, .box [i0])], 1921⟩, [iI, (.sl R1), iI, (.sl R2), .bool, iI, .bool, iI, (.sl R3), iI]⟩, ⟨.exit 0, [4], ⟨[(4, i0)], [(1009, .box [.bor (some 0) R1 [], i0, .bor (some 2) R2 [], .bool false, i0, .bool false, i0, .bor (some 7) R3 []]), (1025, .box [i0])], 1921⟩, [iI, (.sl R1), iI, (.sl R2), .bool, iI, .bool, iI, (.sl R3), iI]⟩], f_impl_HomeOk.l0.u N⟩
noncomputable abbrev K95 : Cons := [(49, C49), (89, C89), (149, C149), (152, C152)]
noncomputable abbrev L95 : List (Nat × Loops) := [(195, [(2, f_impl_HomeOk.l0.c)])]
noncomputable abbrev X95 : Nat → Ctx := ctxOf tb K95 L95 Qe
theorem f_impl_HomeOk.l0.ok : ∀ n p, f_impl_HomeOk.l0.u n p = iterD (roundOf fs X95 4 195 2 true f_impl_HomeOk.l0.c) n p :=
 iter_of (l := f_impl_HomeOk.l0.u) (fun _ => rfl) (fun n p => by kernel_rfl)
theorem E95 : ∀ x, funRun fs X95 6 95 C95 x = C95.fn x := fun x => by kernel_rfl
theorem B95 : ConB Tryz.prog 95 C95 := ConB.make FS MIX TY (cons := K95) (L := L95) (ptrs := Qe) ⟨S49, S89, S149, S152, trivial⟩ trivial ⟨⟨⟨N, fun p => f_impl_HomeOk.l0.ok N p⟩, trivial⟩, trivial⟩ rfl rfl E95
theorem S95 : ConS Tryz.prog 95 C95 := B95.call rfl
noncomputable def f_impl_NodeOk_2 (x0 : List Int) (x1 : Int) (x2 : List Bool) (x3 : Bool) (x4 : Int) (x5 : Bool) (x6 : Int) (x7 : tyW) (x8 : Int) : Option (Bool) :=
 (f_impl_HomeOk x0 x1 x2 x3 x4 x5 x6 x7 x8).bind fun y0 =>
 some (!y0)
noncomputable def C94 : Con := ⟨[(.B, true, [(.sl R1), iI, (.sl R2), .bool, iI, .bool, iI, (.sl R3)]), (.Q, false, [iI])], [(false, [.bool])], [(.sl R1), iI, (.sl R2), .bool, iI, .bool, iI, (.sl R3), iI], [.bool], ap9 f_impl_NodeOk_2⟩
noncomputable abbrev K94 : Cons := [(95, C95)]
noncomputable abbrev X94 : Nat → Ctx := ctxOf tb K94 Le Qe
theorem E94 : ∀ x, funG fs X94 6 94 C94 x = C94.fn x := fun x => by kernel_rfl
theorem B94 : ConG Tryz.prog 94 C94 := ConG.make FS MIX TY (cons := K94) (L := Le) (ptrs := Qe) ⟨S95, trivial⟩ trivial trivial rfl (by kernel_rfl) E94
theorem S94 : ConS Tryz.prog 94 C94 := B94.call (by kernel_rfl)
noncomputable def f_impl_isSeq (x0 : Int) : Option (Bool) :=
 (f_impl_from x0 0 100000).bind fun y0 =>
 some y0
noncomputable def C101 : Con := ⟨[(.B, false, [iI])], [(false, [.bool])], [iI], [.bool], fun (p : Int) => f_impl_isSeq p⟩
noncomputable abbrev K101 : Cons := [(49, C49)]
noncomputable abbrev X101 : Nat → Ctx := ctxOf tb K101 Le Qe
theorem E101 : ∀ x, funRun fs X101 6 101 C101 x = C101.fn x := fun x => by kernel_rfl
theorem B101 : ConB Tryz.prog 101 C101 := ConB.make FS MIX TY (cons := K101) (L := Le) (ptrs := Qe) ⟨S49, trivial⟩ trivial trivial rfl rfl E101
theorem S101 : ConS Tryz.prog 101 C101 := B101.call rfl
noncomputable def f_impl_isPage (x0 : Int) : Option (Bool) :=
 (f_impl_from x0 0 5).bind fun y0 =>
 some y0
noncomputable def C157 : Con := ⟨[(.B, false, [iI])], [(false, [.bool])], [iI], [.bool], fun (p : Int) => f_impl_isPage p⟩
noncomputable abbrev K157 : Cons := [(49, C49)]
noncomputable abbrev X157 : Nat → Ctx := ctxOf tb K157 Le Qe
theorem E157 : ∀ x, funRun fs X157 6 157 C157 x = C157.fn x := fun x => by kernel_rfl
theorem B157 : ConB Tryz.prog 157 C157 := ConB.make FS MIX TY (cons := K157) (L := Le) (ptrs := Qe) ⟨S49, trivial⟩ trivial trivial rfl rfl E157
theorem S157 : ConS Tryz.prog 157 C157 := B157.call rfl
noncomputable def f_impl_MsgOk (x0 : Int) (x1 : Int) (x2 : Bool) (x3 : List Int) : Option (Bool) :=
 (f_impl_from x0 1 7).bind fun y0 =>
 bif (!y0) then
 some false
 else
 (f_impl_isPage x1).bind fun y1 =>
 bif (!y1) then
 some false
 else
 bif x2 then
 bif (!(decide (x0 = (3 : Int)))) then
 bif (!(decide (x0 = (6 : Int)))) then
 some false
 else
 bif (decide (x0 = (3 : Int))) then
 (f_impl_wordsOk x3 4).bind fun y2 =>
 some y2
 else
 bif (decide (x0 = (7 : Int))) then
 (f_impl_wordsOk x3 4).bind fun y3 =>
 some y3
 else
 some (decide ((x3.length : Int) = (0 : Int)))
 else
 bif (decide (x0 = (3 : Int))) then
 (f_impl_wordsOk x3 4).bind fun y4 =>
 some y4
 else
 bif (decide (x0 = (7 : Int))) then
 (f_impl_wordsOk x3 4).bind fun y5 =>
 some y5
 else
 some (decide ((x3.length : Int) = (0 : Int)))
 else
 bif (decide (x0 = (3 : Int))) then
 (f_impl_wordsOk x3 4).bind fun y6 =>
 some y6
 else
 bif (decide (x0 = (7 : Int))) then
 (f_impl_wordsOk x3 4).bind fun y7 =>
 some y7
 else
 some (decide ((x3.length : Int) = (0 : Int)))
noncomputable def C103 : Con := ⟨[(.B, true, [iI, iI, .bool, (.sl R1)])], [(false, [.bool])], [iI, iI, .bool, (.sl R1)], [.bool], ap4 f_impl_MsgOk⟩
noncomputable abbrev K103 : Cons := [(49, C49), (149, C149), (157, C157)]
noncomputable abbrev X103 : Nat → Ctx := ctxOf tb K103 Le Qe
theorem E103 : ∀ x, funRun fs X103 6 103 C103 x = C103.fn x := fun x => by kernel_rfl
theorem B103 : ConB Tryz.prog 103 C103 := ConB.make FS MIX TY (cons := K103) (L := Le) (ptrs := Qe) ⟨S49, S149, S157, trivial⟩ trivial trivial rfl rfl E103
theorem S103 : ConS Tryz.prog 103 C103 := B103.call rfl
noncomputable def f_impl_SenderOk_1 (x0 : Int) (x1 : Int) (x2 : Bool) (x3 : List Int) : Option (Bool) :=
 (f_impl_MsgOk x0 x1 x2 x3).bind fun y0 =>
 some (!y0)
noncomputable def C155 : Con := ⟨[(.B, true, [iI, iI, .bool, (.sl R1)])], [(false, [.bool])], [iI, iI, .bool, (.sl R1)], [.bool], ap4 f_impl_SenderOk_1⟩
noncomputable abbrev K155 : Cons := [(103, C103)]
noncomputable abbrev X155 : Nat → Ctx := ctxOf tb K155 Le Qe
theorem E155 : ∀ x, funRun fs X155 6 155 C155 x = C155.fn x := fun x => by kernel_rfl
theorem B155 : ConB Tryz.prog 155 C155 := ConB.make FS MIX TY (cons := K155) (L := Le) (ptrs := Qe) ⟨S103, trivial⟩ trivial trivial rfl rfl E155
theorem S155 : ConS Tryz.prog 155 C155 := B155.call rfl
noncomputable def f_impl_SenderOk.l0 : Nat → tyM → Int → Int → Int → Int → tyM → Option ((Int × Int × tyM) ⊕ (Int × Int × tyM))
 | 0, _, _, _, _, _, _ => none
 | n + 1, p0, p1, p2, p3, p4, p5 =>
 bif (decide (p3 < p2)) then
 bif ((decide ((0 : Int) ≤ p3)) && (decide (p3 < (p0.length : Int)))) then
 (f_impl_SenderOk_1 ((p0.getD p3.toNat (0, 0, false, [])).1) ((p0.getD p3.toNat (0, 0, false, [])).2.1) ((p0.getD p3.toNat (0, 0, false, [])).2.2.1) ((p0.getD p3.toNat (0, 0, false, [])).2.2.2)).bind fun y6 =>
 bif y6 then
 some (.inl (p3, p4, p5))
 else
 f_impl_SenderOk.l0 n p0 p1 p2 (IntKind.wrap .i64 (p3 + (1 : Int))) p4 p5
 else none
 else
 some (.inr (p1, p4, p5))
noncomputable def f_impl_SenderOk (x0 : Int) (x1 : tyM) : Option (Bool) :=
 (f_impl_isSeq x0).bind fun y0 =>
 bif y0 then
 bif (decide ((x1.length : Int) ≤ (30 : Int))) then
 bif (decide ((IntKind.wrap .i64 (x0 + (x1.length : Int))) ≤ (100000 : Int))) then
 (f_impl_SenderOk.l0 N x1 0 (x1.length : Int) 0 x0 x1).bind fun r1 =>
 cs r1 (fun a2 =>
 some (!(decide ((0 : Int) ≤ a2.1)))) (fun b3 =>
 some true)
 else
 some false
 else
 some false
 else
 some false
noncomputable def C98 : Con := ⟨[(.B, true, [iI, (.sl R6)])], [(false, [.bool])], [iI, (.sl R6)], [.bool], ap2 f_impl_SenderOk⟩
noncomputable abbrev f_impl_SenderOk.l0.u (n : Nat) := ap6 (f_impl_SenderOk.l0 n)
noncomputable def f_impl_SenderOk.l0.c : LoopCon := ⟨1530, 4, [0, 1, 4, 7, 8], ⟨[(0, bN R6), (1, .func 155 []), (4, i0), (7, i0), (8, i0)], [(1002, .box [i0, .bor (some 1) R6 []])], 1530⟩, [(.sl R6), iI, iI, iI, iI, (.sl R6)], [⟨.ret, [4], ⟨[(4, i0)], [(1002, .box [i0, .bor (some 1) R6 []])], 1530⟩, [iI, iI, (.sl R6)]⟩, ⟨.exit 0, [4], ⟨[(4, i0)], [(1002, .box [i0, .bor (some 1) R6 []])], 1530⟩, [iI, iI, (.sl R6)]⟩], f_impl_SenderOk.l0.u N⟩
noncomputable abbrev K98 : Cons := [(101, C101), (155, C155)]
noncomputable abbrev L98 : List (Nat × Loops) := [(196, [(2, f_impl_SenderOk.l0.c)])]
noncomputable abbrev X98 : Nat → Ctx := ctxOf tb K98 L98 Qe
theorem f_impl_SenderOk.l0.ok : ∀ n p, f_impl_SenderOk.l0.u n p = iterD (roundOf fs X98 4 196 2 true f_impl_SenderOk.l0.c) n p :=
 iter_of (l := f_impl_SenderOk.l0.u) (fun _ => rfl) (fun n p => by kernel_rfl)
theorem E98 : ∀ x, funRun fs X98 6 98 C98 x = C98.fn x := fun x => by kernel_rfl
theorem B98 : ConB Tryz.prog 98 C98 := ConB.make FS MIX TY (cons := K98) (L := L98) (ptrs := Qe) ⟨S101, S155, trivial⟩ trivial ⟨⟨⟨N, fun p => f_impl_SenderOk.l0.ok N p⟩, trivial⟩, trivial⟩ rfl rfl E98
theorem S98 : ConS Tryz.prog 98 C98 := B98.call rfl
noncomputable def f_impl_NodeOk_3 (x0 : Int) (x1 : tyM) : Option (Bool) :=
 (f_impl_SenderOk x0 x1).bind fun y0 =>
 some (!y0)
noncomputable def C97 : Con := ⟨[(.B, true, [iI, (.sl R6)])], [(false, [.bool])], [iI, (.sl R6)], [.bool], ap2 f_impl_NodeOk_3⟩
noncomputable abbrev K97 : Cons := [(98, C98)]
noncomputable abbrev X97 : Nat → Ctx := ctxOf tb K97 Le Qe
theorem E97 : ∀ x, funRun fs X97 6 97 C97 x = C97.fn x := fun x => by kernel_rfl
theorem B97 : ConB Tryz.prog 97 C97 := ConB.make FS MIX TY (cons := K97) (L := Le) (ptrs := Qe) ⟨S98, trivial⟩ trivial trivial rfl rfl E97
theorem S97 : ConS Tryz.prog 97 C97 := B97.call rfl
noncomputable def f_impl_NodeOk_4 (x0 : Int) : Option (Bool) :=
 (f_impl_isSeq x0).bind fun y0 =>
 some (!y0)
noncomputable def C100 : Con := ⟨[(.B, true, [iI])], [(false, [.bool])], [iI], [.bool], fun (p : Int) => f_impl_NodeOk_4 p⟩
noncomputable abbrev K100 : Cons := [(101, C101)]
noncomputable abbrev X100 : Nat → Ctx := ctxOf tb K100 Le Qe
theorem E100 : ∀ x, funRun fs X100 6 100 C100 x = C100.fn x := fun x => by kernel_rfl
theorem B100 : ConB Tryz.prog 100 C100 := ConB.make FS MIX TY (cons := K100) (L := Le) (ptrs := Qe) ⟨S101, trivial⟩ trivial trivial rfl rfl E100
theorem S100 : ConS Tryz.prog 100 C100 := B100.call rfl
noncomputable def f_impl_NodeOk.l9 : Nat → (List Int) → Int → Int → Int → Int → tyF → tyH → tyS → (List Int) → Int → Option ((Int × Int × tyF × tyH × tyS × List Int × Int) ⊕ (Int × Int × tyF × tyH × tyS × List Int × Int))
 | 0, _, _, _, _, _, _, _, _, _, _ => none
 | n + 1, p0, p1, p2, p3, p4, p5, p6, p7, p8, p9 =>
 bif (decide (p3 < p2)) then
 bif ((decide ((0 : Int) ≤ p3)) && (decide (p3 < (p0.length : Int)))) then
 (f_impl_NodeOk_4 (p0.getD p3.toNat 0)).bind fun y10 =>
 bif y10 then
 some (.inl (p3, p4, p5, p6, p7, p8, p9))
 else
 f_impl_NodeOk.l9 n p0 p1 p2 (IntKind.wrap .i64 (p3 + (1 : Int))) p4 p5 p6 p7 p8 p9
 else none
 else
 some (.inr (p1, p4, p5, p6, p7, p8, p9))
noncomputable def f_impl_NodeOk.l8 : Nat → tyS → Int → Int → Int → Int → tyF → tyH → tyS → (List Int) → Int → Option ((Int × Int × tyF × tyH × tyS × List Int × Int) ⊕ (Int × Int × tyF × tyH × tyS × List Int × Int))
 | 0, _, _, _, _, _, _, _, _, _, _ => none
 | n + 1, p0, p1, p2, p3, p4, p5, p6, p7, p8, p9 =>
 bif (decide (p3 < p2)) then
 bif ((decide ((0 : Int) ≤ p3)) && (decide (p3 < (p0.length : Int)))) then
 (f_impl_NodeOk_3 ((p0.getD p3.toNat (0, [])).1) ((p0.getD p3.toNat (0, [])).2)).bind fun y10 =>
 bif y10 then
 some (.inl (p3, p4, p5, p6, p7, p8, p9))
 else
 f_impl_NodeOk.l8 n p0 p1 p2 (IntKind.wrap .i64 (p3 + (1 : Int))) p4 p5 p6 p7 p8 p9
 else none
 else
 some (.inr (p1, p4, p5, p6, p7, p8, p9))
noncomputable def f_impl_NodeOk.l7 : Nat → tyH → Int → Int → Int → Int → tyF → tyH → tyS → (List Int) → Int → Option ((Int × Int × tyF × tyH × tyS × List Int × Int) ⊕ (Int × Int × tyF × tyH × tyS × List Int × Int))
 | 0, _, _, _, _, _, _, _, _, _, _ => none
 | n + 1, p0, p1, p2, p3, p4, p5, p6, p7, p8, p9 =>
 bif (decide (p3 < p2)) then
 bif ((decide ((0 : Int) ≤ p3)) && (decide (p3 < (p0.length : Int)))) then
 (f_impl_NodeOk_2 ((p0.getD p3.toNat ([], 0, [], false, 0, false, 0, [])).1) ((p0.getD p3.toNat ([], 0, [], false, 0, false, 0, [])).2.1) ((p0.getD p3.toNat ([], 0, [], false, 0, false, 0, [])).2.2.1) ((p0.getD p3.toNat ([], 0, [], false, 0, false, 0, [])).2.2.2.1) ((p0.getD p3.toNat ([], 0, [], false, 0, false, 0, [])).2.2.2.2.1) ((p0.getD p3.toNat ([], 0, [], false, 0, false, 0, [])).2.2.2.2.2.1) ((p0.getD p3.toNat ([], 0, [], false, 0, false, 0, [])).2.2.2.2.2.2.1) ((p0.getD p3.toNat ([], 0, [], false, 0, false, 0, [])).2.2.2.2.2.2.2) p9).bind fun y10 =>
 bif y10 then
 some (.inl (p3, p4, p5, p6, p7, p8, p9))
 else
 f_impl_NodeOk.l7 n p0 p1 p2 (IntKind.wrap .i64 (p3 + (1 : Int))) p4 p5 p6 p7 p8 p9
 else none
 else
 some (.inr (p1, p4, p5, p6, p7, p8, p9))
noncomputable def f_impl_NodeOk.l6 : Nat → (List Int) → Int → Int → Int → Int → tyF → tyH → tyS → (List Int) → Int → Option ((Int × Int × tyF × tyH × tyS × List Int × Int) ⊕ (Int × Int × tyF × tyH × tyS × List Int × Int))
 | 0, _, _, _, _, _, _, _, _, _, _ => none
 | n + 1, p0, p1, p2, p3, p4, p5, p6, p7, p8, p9 =>
 bif (decide (p3 < p2)) then
 bif ((decide ((0 : Int) ≤ p3)) && (decide (p3 < (p0.length : Int)))) then
 (f_impl_NodeOk_4 (p0.getD p3.toNat 0)).bind fun y10 =>
 bif y10 then
 some (.inl (p3, p4, p5, p6, p7, p8, p9))
 else
 f_impl_NodeOk.l6 n p0 p1 p2 (IntKind.wrap .i64 (p3 + (1 : Int))) p4 p5 p6 p7 p8 p9
 else none
 else
 some (.inr (p1, p4, p5, p6, p7, p8, p9))
noncomputable def f_impl_NodeOk.l5 : Nat → tyS → Int → Int → Int → Int → tyF → tyH → tyS → (List Int) → Int → Option ((Int × Int × tyF × tyH × tyS × List Int × Int) ⊕ (Int × Int × tyF × tyH × tyS × List Int × Int))
 | 0, _, _, _, _, _, _, _, _, _, _ => none
 | n + 1, p0, p1, p2, p3, p4, p5, p6, p7, p8, p9 =>
 bif (decide (p3 < p2)) then
 bif ((decide ((0 : Int) ≤ p3)) && (decide (p3 < (p0.length : Int)))) then
 (f_impl_NodeOk_3 ((p0.getD p3.toNat (0, [])).1) ((p0.getD p3.toNat (0, [])).2)).bind fun y10 =>
 bif y10 then
 some (.inl (p3, p4, p5, p6, p7, p8, p9))
 else
 f_impl_NodeOk.l5 n p0 p1 p2 (IntKind.wrap .i64 (p3 + (1 : Int))) p4 p5 p6 p7 p8 p9
 else none
 else
 some (.inr (p1, p4, p5, p6, p7, p8, p9))
noncomputable def f_impl_NodeOk.l4 : Nat → (List Int) → Int → Int → Int → Int → tyF → tyH → tyS → (List Int) → Int → Option ((Int × Int × tyF × tyH × tyS × List Int × Int) ⊕ (Int × Int × tyF × tyH × tyS × List Int × Int))
 | 0, _, _, _, _, _, _, _, _, _, _ => none
 | n + 1, p0, p1, p2, p3, p4, p5, p6, p7, p8, p9 =>
 bif (decide (p3 < p2)) then
 bif ((decide ((0 : Int) ≤ p3)) && (decide (p3 < (p0.length : Int)))) then
 (f_impl_NodeOk_4 (p0.getD p3.toNat 0)).bind fun y10 =>
 bif y10 then
 some (.inl (p3, p4, p5, p6, p7, p8, p9))
 else
 f_impl_NodeOk.l4 n p0 p1 p2 (IntKind.wrap .i64 (p3 + (1 : Int))) p4 p5 p6 p7 p8 p9
 else none
 else
 some (.inr (p1, p4, p5, p6, p7, p8, p9))
noncomputable def f_impl_NodeOk.l3 : Nat → (List Int) → Int → Int → Int → Int → tyF → tyH → tyS → (List Int) → Int → Option ((Int × Int × tyF × tyH × tyS × List Int × Int) ⊕ (Int × Int × tyF × tyH × tyS × List Int × Int))
 | 0, _, _, _, _, _, _, _, _, _, _ => none
 | n + 1, p0, p1, p2, p3, p4, p5, p6, p7, p8, p9 =>
 bif (decide (p3 < p2)) then
 bif ((decide ((0 : Int) ≤ p3)) && (decide (p3 < (p0.length : Int)))) then
 (f_impl_NodeOk_4 (p0.getD p3.toNat 0)).bind fun y10 =>
 bif y10 then
 some (.inl (p3, p4, p5, p6, p7, p8, p9))
 else
 f_impl_NodeOk.l3 n p0 p1 p2 (IntKind.wrap .i64 (p3 + (1 : Int))) p4 p5 p6 p7 p8 p9
 else none
 else
 some (.inr (p1, p4, p5, p6, p7, p8, p9))
noncomputable def f_impl_NodeOk.l2 : Nat → tyS → Int → Int → Int → Int → tyF → tyH → tyS → (List Int) → Int → Option ((Int × Int × tyF × tyH × tyS × List Int × Int) ⊕ (Int × Int × tyF × tyH × tyS × List Int × Int))
 | 0, _, _, _, _, _, _, _, _, _, _ => none
 | n + 1, p0, p1, p2, p3, p4, p5, p6, p7, p8, p9 =>
 bif (decide (p3 < p2)) then
 bif ((decide ((0 : Int) ≤ p3)) && (decide (p3 < (p0.length : Int)))) then
 (f_impl_NodeOk_3 ((p0.getD p3.toNat (0, [])).1) ((p0.getD p3.toNat (0, [])).2)).bind fun y10 =>
 bif y10 then
 some (.inl (p3, p4, p5, p6, p7, p8, p9))
 else
 f_impl_NodeOk.l2 n p0 p1 p2 (IntKind.wrap .i64 (p3 + (1 : Int))) p4 p5 p6 p7 p8 p9
 else none
 else
 some (.inr (p1, p4, p5, p6, p7, p8, p9))
noncomputable def f_impl_NodeOk.l1 : Nat → tyH → Int → Int → Int → Int → tyF → tyH → tyS → (List Int) → Int → Option ((Int × Int × tyF × tyH × tyS × List Int × Int) ⊕ (Int × Int × tyF × tyH × tyS × List Int × Int))
 | 0, _, _, _, _, _, _, _, _, _, _ => none
 | n + 1, p0, p1, p2, p3, p4, p5, p6, p7, p8, p9 =>
 bif (decide (p3 < p2)) then
 bif ((decide ((0 : Int) ≤ p3)) && (decide (p3 < (p0.length : Int)))) then
 (f_impl_NodeOk_2 ((p0.getD p3.toNat ([], 0, [], false, 0, false, 0, [])).1) ((p0.getD p3.toNat ([], 0, [], false, 0, false, 0, [])).2.1) ((p0.getD p3.toNat ([], 0, [], false, 0, false, 0, [])).2.2.1) ((p0.getD p3.toNat ([], 0, [], false, 0, false, 0, [])).2.2.2.1) ((p0.getD p3.toNat ([], 0, [], false, 0, false, 0, [])).2.2.2.2.1) ((p0.getD p3.toNat ([], 0, [], false, 0, false, 0, [])).2.2.2.2.2.1) ((p0.getD p3.toNat ([], 0, [], false, 0, false, 0, [])).2.2.2.2.2.2.1) ((p0.getD p3.toNat ([], 0, [], false, 0, false, 0, [])).2.2.2.2.2.2.2) p9).bind fun y10 =>
 bif y10 then
 some (.inl (p3, p4, p5, p6, p7, p8, p9))
 else
 f_impl_NodeOk.l1 n p0 p1 p2 (IntKind.wrap .i64 (p3 + (1 : Int))) p4 p5 p6 p7 p8 p9
 else none
 else
 some (.inr (p1, p4, p5, p6, p7, p8, p9))
noncomputable def f_impl_NodeOk.l0 : Nat → tyF → Int → Int → Int → Int → tyF → tyH → tyS → (List Int) → Int → Option ((Int × Int × tyF × tyH × tyS × List Int × Int) ⊕ (Int × Int × tyF × tyH × tyS × List Int × Int))
 | 0, _, _, _, _, _, _, _, _, _, _ => none
 | n + 1, p0, p1, p2, p3, p4, p5, p6, p7, p8, p9 =>
 bif (decide (p3 < p2)) then
 bif ((decide ((0 : Int) ≤ p3)) && (decide (p3 < (p0.length : Int)))) then
 (f_impl_NodeOk_1 ((p0.getD p3.toNat (0, [], false)).1) ((p0.getD p3.toNat (0, [], false)).2.1) ((p0.getD p3.toNat (0, [], false)).2.2)).bind fun y10 =>
 bif y10 then
 some (.inl (p3, p4, p5, p6, p7, p8, p9))
 else
 f_impl_NodeOk.l0 n p0 p1 p2 (IntKind.wrap .i64 (p3 + (1 : Int))) p4 p5 p6 p7 p8 p9
 else none
 else
 some (.inr (p1, p4, p5, p6, p7, p8, p9))
noncomputable def f_impl_NodeOk (x0 : Int) (x1 : tyF) (x2 : tyH) (x3 : tyS) (x4 : List Int) (x5 : Int) : Option (Bool) :=
 (f_impl_isOf x0 x5).bind fun y0 =>
 bif y0 then
 bif (decide ((x1.length : Int) = (6 : Int))) then
 bif (decide ((x2.length : Int) = (6 : Int))) then
 bif (decide ((x3.length : Int) = x5)) then
 bif (decide ((x4.length : Int) = x5)) then
 (f_impl_NodeOk.l0 N x1 0 (x1.length : Int) 0 x0 x1 x2 x3 x4 x5).bind fun r1 =>
 cs r1 (fun a2 =>
 bif (!(decide ((0 : Int) ≤ a2.1))) then
 (f_impl_NodeOk.l1 N a2.2.2.2.1 0 (a2.2.2.2.1.length : Int) 0 a2.2.1 a2.2.2.1 a2.2.2.2.1 a2.2.2.2.2.1 a2.2.2.2.2.2.1 a2.2.2.2.2.2.2).bind fun r3 =>
 cs r3 (fun a4 =>
 bif (!(decide ((0 : Int) ≤ a4.1))) then
 (f_impl_NodeOk.l2 N a4.2.2.2.2.1 0 (a4.2.2.2.2.1.length : Int) 0 a4.2.1 a4.2.2.1 a4.2.2.2.1 a4.2.2.2.2.1 a4.2.2.2.2.2.1 a4.2.2.2.2.2.2).bind fun r5 =>
 cs r5 (fun a6 =>
 bif (!(decide ((0 : Int) ≤ a6.1))) then
 (f_impl_NodeOk.l3 N a6.2.2.2.2.2.1 0 (a6.2.2.2.2.2.1.length : Int) 0 a6.2.1 a6.2.2.1 a6.2.2.2.1 a6.2.2.2.2.1 a6.2.2.2.2.2.1 a6.2.2.2.2.2.2).bind fun r7 =>
 cs r7 (fun a8 =>
 some (!(decide ((0 : Int) ≤ a8.1)))) (fun b9 =>
 some true)
 else
 some false) (fun b10 =>
 (f_impl_NodeOk.l4 N b10.2.2.2.2.2.1 0 (b10.2.2.2.2.2.1.length : Int) 0 b10.2.1 b10.2.2.1 b10.2.2.2.1 b10.2.2.2.2.1 b10.2.2.2.2.2.1 b10.2.2.2.2.2.2).bind fun r11 =>
 cs r11 (fun a12 =>
 some (!(decide ((0 : Int) ≤ a12.1)))) (fun b13 =>
 some true))
 else
 some false) (fun b14 =>
 (f_impl_NodeOk.l5 N b14.2.2.2.2.1 0 (b14.2.2.2.2.1.length : Int) 0 b14.2.1 b14.2.2.1 b14.2.2.2.1 b14.2.2.2.2.1 b14.2.2.2.2.2.1 b14.2.2.2.2.2.2).bind fun r15 =>
 cs r15 (fun a16 =>
 bif (!(decide ((0 : Int) ≤ a16.1))) then
 (f_impl_NodeOk.l4 N a16.2.2.2.2.2.1 0 (a16.2.2.2.2.2.1.length : Int) 0 a16.2.1 a16.2.2.1 a16.2.2.2.1 a16.2.2.2.2.1 a16.2.2.2.2.2.1 a16.2.2.2.2.2.2).bind fun r17 =>
 cs r17 (fun a18 =>
 some (!(decide ((0 : Int) ≤ a18.1)))) (fun b19 =>
 some true)
 else
 some false) (fun b20 =>
 (f_impl_NodeOk.l6 N b20.2.2.2.2.2.1 0 (b20.2.2.2.2.2.1.length : Int) 0 b20.2.1 b20.2.2.1 b20.2.2.2.1 b20.2.2.2.2.1 b20.2.2.2.2.2.1 b20.2.2.2.2.2.2).bind fun r21 =>
 cs r21 (fun a22 =>
 some (!(decide ((0 : Int) ≤ a22.1)))) (fun b23 =>
 some true)))
 else
 some false) (fun b24 =>
 (f_impl_NodeOk.l7 N b24.2.2.2.1 0 (b24.2.2.2.1.length : Int) 0 b24.2.1 b24.2.2.1 b24.2.2.2.1 b24.2.2.2.2.1 b24.2.2.2.2.2.1 b24.2.2.2.2.2.2).bind fun r25 =>
 cs r25 (fun a26 =>
 bif (!(decide ((0 : Int) ≤ a26.1))) then
 (f_impl_NodeOk.l5 N a26.2.2.2.2.1 0 (a26.2.2.2.2.1.length : Int) 0 a26.2.1 a26.2.2.1 a26.2.2.2.1 a26.2.2.2.2.1 a26.2.2.2.2.2.1 a26.2.2.2.2.2.2).bind fun r27 =>
 cs r27 (fun a28 =>
 bif (!(decide ((0 : Int) ≤ a28.1))) then
 (f_impl_NodeOk.l4 N a28.2.2.2.2.2.1 0 (a28.2.2.2.2.2.1.length : Int) 0 a28.2.1 a28.2.2.1 a28.2.2.2.1 a28.2.2.2.2.1 a28.2.2.2.2.2.1 a28.2.2.2.2.2.2).bind fun r29 =>
 cs r29 (fun a30 =>
 some (!(decide ((0 : Int) ≤ a30.1)))) (fun b31 =>
 some true)
 else
 some false) (fun b32 =>
 (f_impl_NodeOk.l6 N b32.2.2.2.2.2.1 0 (b32.2.2.2.2.2.1.length : Int) 0 b32.2.1 b32.2.2.1 b32.2.2.2.1 b32.2.2.2.2.1 b32.2.2.2.2.2.1 b32.2.2.2.2.2.2).bind fun r33 =>
 cs r33 (fun a34 =>
 some (!(decide ((0 : Int) ≤ a34.1)))) (fun b35 =>
 some true))
 else
 some false) (fun b36 =>
 (f_impl_NodeOk.l8 N b36.2.2.2.2.1 0 (b36.2.2.2.2.1.length : Int) 0 b36.2.1 b36.2.2.1 b36.2.2.2.1 b36.2.2.2.2.1 b36.2.2.2.2.2.1 b36.2.2.2.2.2.2).bind fun r37 =>
 cs r37 (fun a38 =>
 bif (!(decide ((0 : Int) ≤ a38.1))) then
 (f_impl_NodeOk.l6 N a38.2.2.2.2.2.1 0 (a38.2.2.2.2.2.1.length : Int) 0 a38.2.1 a38.2.2.1 a38.2.2.2.1 a38.2.2.2.2.1 a38.2.2.2.2.2.1 a38.2.2.2.2.2.2).bind fun r39 =>
 cs r39 (fun a40 =>
 some (!(decide ((0 : Int) ≤ a40.1)))) (fun b41 =>
 some true)
 else
 some false) (fun b42 =>
 (f_impl_NodeOk.l9 N b42.2.2.2.2.2.1 0 (b42.2.2.2.2.2.1.length : Int) 0 b42.2.1 b42.2.2.1 b42.2.2.2.1 b42.2.2.2.2.1 b42.2.2.2.2.2.1 b42.2.2.2.2.2.2).bind fun r43 =>
 cs r43 (fun a44 =>
 some (!(decide ((0 : Int) ≤ a44.1)))) (fun b45 =>
 some true))))
 else
 some false
 else
 some false
 else
 some false
 else
 some false
 else
 some false
noncomputable def C50 : Con := ⟨[(.B, true, [iI, (.sl R4), (.sl R5), (.sl R7), (.sl R1)]), (.B, false, [iI])], [(false, [.bool])], [iI, (.sl R4), (.sl R5), (.sl R7), (.sl R1), iI], [.bool], ap6 f_impl_NodeOk⟩
noncomputable abbrev f_impl_NodeOk.l0.u (n : Nat) := ap10 (f_impl_NodeOk.l0 n)
noncomputable def f_impl_NodeOk.l0.c : LoopCon := ⟨2046, 4, [0, 1, 4, 7, 8], ⟨[(0, bN R4), (1, .func 91 []), (4, i0), (7, i0), (8, i0)], [(1006, .box [i0, .bor (some 1) R4 [], .bor (some 2) R5 [], .bor (some 3) R7 [], .bor (some 4) R1 []]), (1022, .box [i0])], 2046⟩, [(.sl R4), iI, iI, iI, iI, (.sl R4), (.sl R5), (.sl R7), (.sl R1), iI], [⟨.ret, [4], ⟨[(4, i0)], [(1006, .box [i0, .bor (some 1) R4 [], .bor (some 2) R5 [], .bor (some 3) R7 [], .bor (some 4) R1 []]), (1022, .box [i0])], 2046⟩, [iI, iI, (.sl R4), (.sl R5), (.sl R7), (.sl R1), iI]⟩, ⟨.exit 0, [4], ⟨[(4, i0)], [(1006, .box [i0, .bor (some 1) R4 [], .bor (some 2) R5 [], .bor (some 3) R7 [], .bor (some 4) R1 []]), (1022, .box [i0])], 2046⟩, [iI, iI, (.sl R4), (.sl R5), (.sl R7), (.sl R1), iI]⟩], f_impl_NodeOk.l0.u N⟩
noncomputable abbrev f_impl_NodeOk.l1.u (n : Nat) := ap10 (f_impl_NodeOk.l1 n)
noncomputable def f_impl_NodeOk.l1.c : LoopCon := ⟨2142, 4, [0, 1, 4, 7, 8], ⟨[(0, bN R5), (1, .func 94 [.ptr 1022 0]), (4, i0), (7, i0), (8, i0)], [(1006, .box [i0, .bor (some 1) R4 [], .bor (some 2) R5 [], .bor (some 3) R7 [], .bor (some 4) R1 []]), (1022, .box [i0])], 2142⟩, [(.sl R5), iI, iI, iI, iI, (.sl R4), (.sl R5), (.sl R7), (.sl R1), iI], [⟨.ret, [4], ⟨[(4, i0)], [(1006, .box [i0, .bor (some 1) R4 [], .bor (some 2) R5 [], .bor (some 3) R7 [], .bor (some 4) R1 []]), (1022, .box [i0])], 2142⟩, [iI, iI, (.sl R4), (.sl R5), (.sl R7), (.sl R1), iI]⟩, ⟨.exit 0, [4], ⟨[(4, i0)], [(1006, .box [i0, .bor (some 1) R4 [], .bor (some 2) R5 [], .bor (some 3) R7 [], .bor (some 4) R1 []]), (1022, .box [i0])], 2142⟩, [iI, iI, (.sl R4), (.sl R5), (.sl R7), (.sl R1), iI]⟩], f_impl_NodeOk.l1.u N⟩
noncomputable abbrev f_impl_NodeOk.l2.u (n : Nat) := ap10 (f_impl_NodeOk.l2 n)
noncomputable def f_impl_NodeOk.l2.c : LoopCon := ⟨2238, 4, [0, 1, 4, 7, 8], ⟨[(0, bN R7), (1, .func 97 []), (4, i0), (7, i0), (8, i0)], [(1006, .box [i0, .bor (some 1) R4 [], .bor (some 2) R5 [], .bor (some 3) R7 [], .bor (some 4) R1 []]), (1022, .box [i0])], 2238⟩, [(.sl R7), iI, iI, iI, iI, (.sl R4), (.sl R5), (.sl R7), (.sl R1), iI], [⟨.ret, [4], ⟨[(4, i0)], [(1006, .box [i0, .bor (some 1) R4 [], .bor (some 2) R5 [], .bor (some 3) R7 [], .bor (some 4) R1 []]), (1022, .box [i0])], 2238⟩, [iI, iI, (.sl R4), (.sl R5), (.sl R7), (.sl R1), iI]⟩, ⟨.exit 0, [4], ⟨[(4, i0)], [(1006, .box [i0, .bor (some 1) R4 [], .bor (some 2) R5 [], .bor (some 3) R7 [], .bor (some 4) R1 []]), (1022, .box [i0])], 2238⟩, [iI, iI, (.sl R4), (.sl R5), (.sl R7), (.sl R1), iI]⟩], f_impl_NodeOk.l2.u N⟩
noncomputable abbrev f_impl_NodeOk.l3.u (n : Nat) := ap10 (f_impl_NodeOk.l3 n)
noncomputable def f_impl_NodeOk.l3.c : LoopCon := ⟨2334, 4, [0, 1, 4, 7, 8], ⟨[(0, bN R1), (1, .func 100 []), (4, i0), (7, i0), (8, i0)], [(1006, .box [i0, .bor (some 1) R4 [], .bor (some 2) R5 [], .bor (some 3) R7 [], .bor (some 4) R1 []]), (1022, .box [i0])], 2334⟩, [(.sl R1), iI, iI, iI, iI, (.sl R4), (.sl R5), (.sl R7), (.sl R1), iI], [⟨.ret, [4], ⟨[(4, i0)], [(1006, .box [i0, .bor (some 1) R4 [], .bor (some 2) R5 [], .bor (some 3) R7 [], .bor (some 4) R1 []]), (1022, .box [i0])], 2334⟩, [iI, iI, (.sl R4), (.sl R5), (.sl R7), (.sl R1), iI]⟩, ⟨.exit 0, [4], ⟨[(4, i0)], [(1006, .box [i0, .bor (some 1) R4 [], .bor (some 2) R5 [], .bor (some 3) R7 [], .bor (some 4) R1 []]), (1022, .box [i0])], 2334⟩, [iI, iI, (.sl R4), (.sl R5), (.sl R7), (.sl R1), iI]⟩], f_impl_NodeOk.l3.u N⟩
noncomputable abbrev f_impl_NodeOk.l4.u (n : Nat) := ap10 (f_impl_NodeOk.l4 n)
noncomputable def f_impl_NodeOk.l4.c : LoopCon := ⟨2350, 4, [0, 1, 4, 7, 8], ⟨[(0, bN R1), (1, .func 100 []), (4, i0), (7, i0), (8, i0)], [(1006, .box [i0, .bor (some 1) R4 [], .bor (some 2) R5 [], .bor (some 3) R7 [], .bor (some 4) R1 []]), (1022, .box [i0])], 2350⟩, [(.sl R1), iI, iI, iI, iI, (.sl R4), (.sl R5), (.sl R7), (.sl R1), iI], [⟨.ret, [4], ⟨[(4, i0)], [(1006, .box [i0, .bor (some 1) R4 [], .bor (some 2) R5 [], .bor (some 3) R7 [], .bor (some 4) R1 []]), (1022, .box [i0])], 2350⟩, [iI, iI, (.sl R4), (.sl R5), (.sl R7), (.sl R1), iI]⟩, ⟨.exit 0, [4], ⟨[(4, i0)], [(1006, .box [i0, .bor (some 1) R4 [], .bor (some 2) R5 [], .bor (some 3) R7 [], .bor (some 4) R1 []]), (1022, .box [i0])], 2350⟩, [iI, iI, (.sl R4), (.sl R5), (.sl R7), (.sl R1), iI]⟩], f_impl_NodeOk.l4.u N⟩
noncomputable abbrev f_impl_NodeOk.l5.u (n : Nat) := ap10 (f_impl_NodeOk.l5 n)
noncomputable def f_impl_NodeOk.l5.c : LoopCon := ⟨2254, 4, [0, 1, 4, 7, 8], ⟨[(0, bN R7), (1, .func 97 []), (4, i0), (7, i0), (8, i0)], [(1006, .box [i0, .bor (some 1) R4 [], .bor (some 2) R5 [], .bor (some 3) R7 [], .bor (some 4) R1 []]), (1022, .box [i0])], 2254⟩, [(.sl R7), iI, iI, iI, iI, (.sl R4), (.sl R5), (.sl R7), (.sl R1), iI], [⟨.ret, [4], ⟨[(4, i0)], [(1006, .box [i0, .bor (some 1) R4 [], .bor (some 2) R5 [], .bor (some 3) R7 [], .bor (some 4) R1 []]), (1022, .box [i0])], 2254⟩, [iI, iI, (.sl R4), (.sl R5), (.sl R7), (.sl R1), iI]⟩, ⟨.exit 0, [4], ⟨[(4, i0)], [(1006, .box [i0, .bor (some 1) R4 [], .bor (some 2) R5 [], .bor (some 3) R7 [], .bor (some 4) R1 []]), (1022, .box [i0])], 2254⟩, [iI, iI, (.sl R4), (.sl R5), (.sl R7), (.sl R1), iI]⟩], f_impl_NodeOk.l5.u N⟩
noncomputable abbrev f_impl_NodeOk.l6.u (n : Nat) := ap10 (f_impl_NodeOk.l6 n)
noncomputable def f_impl_NodeOk.l6.c : LoopCon := ⟨2366, 4, [0, 1, 4, 7, 8], ⟨[(0, bN R1), (1, .func 100 []), (4, i0), (7, i0), (8, i0)], [(1006, .box [i0, .bor (some 1) R4 [], .bor (some 2) R5 [], .bor (some 3) R7 [], .bor (some 4) R1 []]), (1022, .box [i0])], 2366⟩, [(.sl R1), iI, iI, iI, iI, (.sl R4), (.sl R5), (.sl R7), (.sl R1), iI], [⟨.ret, [4], ⟨[(4, i0)], [(1006, .box [i0, .bor (some 1) R4 [], .bor (some 2) R5 [], .bor (some 3) R7 [], .bor (some 4) R1 []]), (1022, .box [i0])], 2366⟩, [iI, iI, (.sl R4), (.sl R5), (.sl R7), (.sl R1), iI]⟩, ⟨.exit 0, [4], ⟨[(4, i0)], [(1006, .box [i0, .bor (some 1) R4 [], .bor (some 2) R5 [], .bor (some 3) R7 [], .bor (some 4) R1 []]), (1022, .box [i0])], 2366⟩, [iI, iI, (.sl R4), (.sl R5), (.sl R7), (.sl R1), iI]⟩], f_impl_NodeOk.l6.u N⟩
noncomputable abbrev f_impl_NodeOk.l7.u (n : Nat) := ap10 (f_impl_NodeOk.l7 n)
noncomputable def f_impl_NodeOk.l7.c : LoopCon := ⟨2158, 4, [0, 1, 4, 7, 8], ⟨[(0, bN R5), (1, .func 94 [.ptr 1022 0]), (4, i0), (7, i0), (8, i0)], [(1006, .box [i0, .bor (some 1) R4 [], .bor (some 2) R5 [], .bor (some 3) R7 [], .bor (some 4) R1 []]), (1022, .box [i0])], 2158⟩, [(.sl R5), iI, iI, iI, iI, (.sl R4), (.sl R5), (.sl R7), (.sl R1), iI], [⟨.ret, [4], ⟨[(4, i0)], [(1006, .box [i0, .bor (some 1) R4 [], .bor (some 2) R5 [], .bor (some 3) R7 [], .bor (some 4) R1 []]), (1022, .box [i0])], 2158⟩, [iI, iI, (.sl R4), (.sl R5), (.sl R7), (.sl R1), iI]⟩, ⟨.exit 0, [4], ⟨[(4, i0)], [(1006, .box [i0, .bor (some 1) R4 [], .bor (some 2) R5 [], .bor (some 3) R7 [], .bor (some 4) R1 []]), (1022, .box [i0])], 2158⟩, [iI, iI, (.sl R4), (.sl R5), (.sl R7), (.sl R1), iI]⟩], f_impl_NodeOk.l7.u N⟩
noncomputable abbrev f_impl_NodeOk.l8.u (n : Nat) := ap10 (f_impl_NodeOk.l8 n)
noncomputable def f_impl_NodeOk.l8.c : LoopCon := ⟨2270, 4, [0, 1, 4, 7, 8], ⟨[(0, bN R7), (1, .func 97 []), (4, i0), (7, i0), (8, i0)], [(1006, .box [i0, .bor (some 1) R4 [], .bor (some 2) R5 [], .bor (some 3) R7 [], .bor (some 4) R1 []]), (1022, .box [i0])], 2270⟩, [(.sl R7), iI, iI, iI, iI, (.sl R4), (.sl R5), (.sl R7), (.sl R1), iI], [⟨.ret, [4], ⟨[(4, i0)], [(1006, .box [i0, .bor (some 1) R4 [], .bor (some 2) R5 [], .bor (some 3) R7 [], .bor (some 4) R1 []]), (1022, .box [i0])], 2270⟩, [iI, iI, (.sl R4), (.sl R5), (.sl R7), (.sl R1), iI]⟩, ⟨.exit 0, [4], ⟨[(4, i0)], [(1006, .box [i0, .bor (some 1) R4 [], .bor (some 2) R5 [], .bor (some 3) R7 [], .bor (some 4) R1 []]), (1022, .box [i0])], 2270⟩, [iI, iI, (.sl R4), (.sl R5), (.sl R7), (.sl R1), iI]⟩], f_impl_NodeOk.l8.u N⟩
noncomputable abbrev f_impl_NodeOk.l9.u (n : Nat) := ap10 (f_impl_NodeOk.l9 n)
noncomputable def f_impl_NodeOk.l9.c : LoopCon := ⟨2382, 4, [0, 1, 4, 7, 8], ⟨[(0, bN R1), (1, .func 100 []), (4, i0), (7, i0), (8, i0)], [(1006, .box [i0, .bor (some 1) R4 [], .bor (some 2) R5 [], .bor (some 3) R7 [], .bor (some 4) R1 []]), (1022, .box [i0])], 2382⟩, [(.sl R1), iI, iI, iI, iI, (.sl R4), (.sl R5), (.sl R7), (.sl R1), iI], [⟨.ret, [4], ⟨[(4, i0)], [(1006, .box [i0, .bor (some 1) R4 [], .bor (some 2) R5 [], .bor (some 3) R7 [], .bor (some 4) R1 []]), (1022, .box [i0])], 2382⟩, [iI, iI, (.sl R4), (.sl R5), (.sl R7), (.sl R1), iI]⟩, ⟨.exit 0, [4], ⟨[(4, i0)], [(1006, .box [i0, .bor (some 1) R4 [], .bor (some 2) R5 [], .bor (some 3) R7 [], .bor (some 4) R1 []]), (1022, .box [i0])], 2382⟩, [iI, iI, (.sl R4), (.sl R5), (.sl R7), (.sl R1), iI]⟩], f_impl_NodeOk.l9.u N⟩
noncomputable abbrev K50 : Cons := [(89, C89), (91, C91), (94, C94), (97, C97), (100, C100)]
noncomputable abbrev L50 : List (Nat × Loops) := [(148, [(2, f_impl_NodeOk.l0.c)]), (150, [(2, f_impl_NodeOk.l1.c), (2, f_impl_NodeOk.l7.c)]), (153, [(2, f_impl_NodeOk.l2.c), (2, f_impl_NodeOk.l5.c), (2, f_impl_NodeOk.l8.c)]), (156, [(2, f_impl_NodeOk.l3.c), (2, f_impl_NodeOk.l4.c), (2, f_impl_NodeOk.l6.c), (2, f_impl_NodeOk.l9.c)])]
noncomputable abbrev X50 : Nat → Ctx := ctxOf tb K50 L50 Qe
theorem f_impl_NodeOk.l0.ok : ∀ n p, f_impl_NodeOk.l0.u n p = iterD (roundOf fs X50 4 148 2 true f_impl_NodeOk.l0.c) n p :=
 iter_of (l := f_impl_NodeOk.l0.u) (fun _ => rfl) (fun n p => by kernel_rfl)
theorem f_impl_NodeOk.l1.ok : ∀ n p, f_impl_NodeOk.l1.u n p = iterD (roundOf fs X50 4 150 2 true f_impl_NodeOk.l1.c) n p :=
 iter_of (l := f_impl_NodeOk.l1.u) (fun _ => rfl) (fun n p => by kernel_rfl)
theorem f_impl_NodeOk.l2.ok : ∀ n p, f_impl_NodeOk.l2.u n p = iterD (roundOf fs X50 4 153 2 true f_impl_NodeOk.l2.c) n p :=
 iter_of (l := f_impl_NodeOk.l2.u) (fun _ => rfl) (fun n p => by kernel_rfl)
theorem f_impl_NodeOk.l3.ok : ∀ n p, f_impl_NodeOk.l3.u n p = iterD (roundOf fs X50 4 156 2 true f_impl_NodeOk.l3.c) n p :=
 iter_of (l := f_impl_NodeOk.l3.u) (fun _ => rfl) (fun n p => by kernel_rfl)
theorem f_impl_NodeOk.l4.ok : ∀ n p, f_impl_NodeOk.l4.u n p = iterD (roundOf fs X50 4 156 2 true f_impl_NodeOk.l4.c) n p :=
 iter_of (l := f_impl_NodeOk.l4.u) (fun _ => rfl) (fun n p => by kernel_rfl)
theorem f_impl_NodeOk.l5.ok : ∀ n p, f_impl_NodeOk.l5.u n p = iterD (roundOf fs X50 4 153 2 true f_impl_NodeOk.l5.c) n p :=
 iter_of (l := f_impl_NodeOk.l5.u) (fun _ => rfl) (fun n p => by kernel_rfl)
theorem f_impl_NodeOk.l6.ok : ∀ n p, f_impl_NodeOk.l6.u n p = iterD (roundOf fs X50 4 156 2 true f_impl_NodeOk.l6.c) n p :=
 iter_of (l := f_impl_NodeOk.l6.u) (fun _ => rfl) (fun n p => by kernel_rfl)
theorem f_impl_NodeOk.l7.ok : ∀ n p, f_impl_NodeOk.l7.u n p = iterD (roundOf fs X50 4 150 2 true f_impl_NodeOk.l7.c) n p :=
 iter_of (l := f_impl_NodeOk.l7.u) (fun _ => rfl) (fun n p => by kernel_rfl)
theorem f_impl_NodeOk.l8.ok : ∀ n p, f_impl_NodeOk.l8.u n p = iterD (roundOf fs X50 4 153 2 true f_impl_NodeOk.l8.c) n p :=
 iter_of (l := f_impl_NodeOk.l8.u) (fun _ => rfl) (fun n p => by kernel_rfl)
theorem f_impl_NodeOk.l9.ok : ∀ n p, f_impl_NodeOk.l9.u n p = iterD (roundOf fs X50 4 156 2 true f_impl_NodeOk.l9.c) n p :=
 iter_of (l := f_impl_NodeOk.l9.u) (fun _ => rfl) (fun n p => by kernel_rfl)
theorem E50 : ∀ x, funRun fs X50 6 50 C50 x = C50.fn x := fun x => by kernel_rfl
theorem B50 : ConB Tryz.prog 50 C50 := ConB.make FS MIX TY (cons := K50) (L := L50) (ptrs := Qe) ⟨S89, S91, S94, S97, S100, trivial⟩ trivial ⟨⟨⟨N, fun p => f_impl_NodeOk.l0.ok N p⟩, trivial⟩, ⟨⟨N, fun p => f_impl_NodeOk.l1.ok N p⟩, ⟨N, fun p => f_impl_NodeOk.l7.ok N p⟩, trivial⟩, ⟨⟨N, fun p => f_impl_NodeOk.l2.ok N p⟩, ⟨N, fun p => f_impl_NodeOk.l5.ok N p⟩, ⟨N, fun p => f_impl_NodeOk.l8.ok N p⟩, trivial⟩, ⟨⟨N, fun p => f_impl_NodeOk.l3.ok N p⟩, ⟨N, fun p => f_impl_NodeOk.l4.ok N p⟩, ⟨N, fun p => f_impl_NodeOk.l6.ok N p⟩, ⟨N, fun p => f_impl_NodeOk.l9.ok N p⟩, trivial⟩, trivial⟩ rfl rfl E50
theorem S50 : ConS Tryz.prog 50 C50 := B50.call rfl
noncomputable def f_impl_PacketOk (x0 : Int) (x1 : Int) (x2 : Bool) (x3 : Int) (x4 : Int) (x5 : Int) (x6 : Bool) (x7 : List Int) (x8 : Int) : Option (Bool) :=
 (f_impl_isOf x0 x8).bind fun y0 =>
 bif (!y0) then
 some false
 else
 (f_impl_isOf x1 x8).bind fun y1 =>
 bif (!y1) then
 some false
 else
 (f_impl_isSeq x3).bind fun y2 =>
 bif (!y2) then
 some false
 else
 bif x2 then
 bif (decide (x4 = (0 : Int))) then
 bif (decide (x5 = (0 : Int))) then
 bif (!x6) then
 some (decide ((x7.length : Int) = (0 : Int)))
 else
 some false
 else
 some false
 else
 some false
 else
 (f_impl_MsgOk x4 x5 x6 x7).bind fun y3 =>
 some y3
noncomputable def C53 : Con := ⟨[(.B, true, [iI, iI, .bool, iI, iI, iI, .bool, (.sl R1)]), (.B, false, [iI])], [(false, [.bool])], [iI, iI, .bool, iI, iI, iI, .bool, (.sl R1), iI], [.bool], ap9 f_impl_PacketOk⟩
noncomputable abbrev K53 : Cons := [(89, C89), (101, C101), (103, C103)]
noncomputable abbrev X53 : Nat → Ctx := ctxOf tb K53 Le Qe
theorem E53 : ∀ x, funRun fs X53 6 53 C53 x = C53.fn x := fun x => by kernel_rfl
theorem B53 : ConB Tryz.prog 53 C53 := ConB.make FS MIX TY (cons := K53) (L := Le) (ptrs := Qe) ⟨S89, S101, S103, trivial⟩ trivial trivial rfl rfl E53
theorem S53 : ConS Tryz.prog 53 C53 := B53.call rfl
noncomputable def f_impl_WorldOk_1 (x0 : Int) (x1 : Int) (x2 : Bool) (x3 : Int) (x4 : Int) (x5 : Int) (x6 : Bool) (x7 : List Int) (x8 : Int) (x9 : tyN) (x10 : tyP) : Option (Bool) :=
 (f_impl_PacketOk x0 x1 x2 x3 x4 x5 x6 x7 x8).bind fun y0 =>
 some (!y0)
noncomputable def C52 : Con := ⟨[(.B, true, [iI, iI, .bool, iI, iI, iI, .bool, (.sl R1)]), (.Q, false, [iI, (.sl R8), (.sl R9)])], [(false, [.bool])], [iI, iI, .bool, iI, iI, iI, .bool, (.sl R1), iI, (.sl R8), (.sl R9)], [.bool], ap11 f_impl_WorldOk_1⟩
noncomputable abbrev K52 : Cons := [(53, C53)]
noncomputable abbrev X52 : Nat → Ctx := ctxOf tb K52 Le Qe
theorem E52 : ∀ x, funG fs X52 6 52 C52 x = C52.fn x := fun x => by kernel_rfl
theorem B52 : ConG Tryz.prog 52 C52 := ConG.make FS MIX TY (cons := K52) (L := Le) (ptrs := Qe) ⟨S53, trivial⟩ trivial trivial rfl (by kernel_rfl) E52
theorem S52 : ConS Tryz.prog 52 C52 := B52.call (by kernel_rfl)
noncomputable def f_impl_WorldOk.l1 : Nat → tyP → Int → Int → Int → Int → tyN → tyP → Option ((Int × Int × tyN × tyP) ⊕ (Int × Int × tyN × tyP))
 | 0, _, _, _, _, _, _, _ => none
 | n + 1, p0, p1, p2, p3, p4, p5, p6 =>
 bif (decide (p3 < p2)) then
 bif ((decide ((0 : Int) ≤ p3)) && (decide (p3 < (p0.length : Int)))) then
 (f_impl_WorldOk_1 ((p0.getD p3.toNat (0, 0, false, 0, 0, 0, false, [])).1) ((p0.getD p3.toNat (0, 0, false, 0, 0, 0, false, [])).2.1) ((p0.getD p3.toNat (0, 0, false, 0, 0, 0, false, [])).2.2.1) ((p0.getD p3.toNat (0, 0, false, 0, 0, 0, false, [])).2.2.2.1) ((p0.getD p3.toNat (0, 0, false, 0, 0, 0, false, [])).2.2.2.2.1) ((p0.getD p3.toNat (0, 0, false, 0, 0, 0, false, [])).2.2.2.2.2.1) ((p0.getD p3.toNat (0, 0, false, 0, 0, 0, false, [])).2.2.2.2.2.2.1) ((p0.getD p3.toNat (0, 0, false, 0, 0, 0, false, [])).2.2.2.2.2.2.2) p4 p5 p6).bind fun y7 =>
 bif y7 then
 some (.inl (p3, p4, p5, p6))
 else
 f_impl_WorldOk.l1 n p0 p1 p2 (IntKind.wrap .i64 (p3 + (1 : Int))) p4 p5 p6
 else none
 else
 some (.inr (p1, p4, p5, p6))
noncomputable def f_impl_WorldOk.l0 : Nat → Bool → tyN → Int → Int → Int → tyN → tyP → Option ((Bool) ⊕ (Bool × Int × tyN × tyP))
 | 0, _, _, _, _, _, _, _ => none
 | n + 1, p0, p1, p2, p3, p4, p5, p6 =>
 bif (decide (p3 < p2)) then
 bif ((decide ((0 : Int) ≤ p3)) && (decide (p3 < (p1.length : Int)))) then
 (f_impl_NodeOk ((p1.getD p3.toNat (0, [], [], [], [])).1) ((p1.getD p3.toNat (0, [], [], [], [])).2.1) ((p1.getD p3.toNat (0, [], [], [], [])).2.2.1) ((p1.getD p3.toNat (0, [], [], [], [])).2.2.2.1) ((p1.getD p3.toNat (0, [], [], [], [])).2.2.2.2) p4).bind fun y7 =>
 bif (!y7) then
 some (.inl false)
 else
 bif (!(decide (((p1.getD p3.toNat (0, [], [], [], [])).1) = p3))) then
 some (.inl false)
 else
 f_impl_WorldOk.l0 n p0 p1 p2 (IntKind.wrap .i64 (p3 + (1 : Int))) p4 p5 p6
 else none
 else
 some (.inr (p0, p4, p5, p6))
noncomputable def f_impl_WorldOk (x0 : Int) (x1 : tyN) (x2 : tyP) : Option (Bool) :=
 (f_impl_from x0 1 4).bind fun y0 =>
 bif (!y0) then
 some false
 else
 bif (!(decide ((x1.length : Int) = x0))) then
 some false
 else
 bif (decide ((40 : Int) < (x2.length : Int))) then
 some false
 else
 (f_impl_WorldOk.l0 N false x1 (x1.length : Int) 0 x0 x1 x2).bind fun r1 =>
 cs r1 (fun a2 =>
 some a2) (fun b3 =>
 (f_impl_WorldOk.l1 N b3.2.2.2 0 (b3.2.2.2.length : Int) 0 b3.2.1 b3.2.2.1 b3.2.2.2).bind fun r4 =>
 cs r4 (fun a5 =>
 some (!(decide ((0 : Int) ≤ a5.1)))) (fun b6 =>
 some true))
noncomputable def C17 : Con := ⟨[(.B, true, [iI, (.sl R8), (.sl R9)])], [(false, [.bool])], [iI, (.sl R8), (.sl R9)], [.bool], ap3 f_impl_WorldOk⟩
noncomputable abbrev f_impl_WorldOk.l0.u (n : Nat) := ap7 (f_impl_WorldOk.l0 n)
noncomputable def f_impl_WorldOk.l0.c : LoopCon := ⟨1000, 6, [1, 2, 24, 25, 26], ⟨[(1, .ptr 1000 0), (2, .bool false), (24, bN R8), (25, i0), (26, i0)], [(1000, .box [i0, bN R8, bN R9])], 1001⟩, [.bool, (.sl R8), iI, iI, iI, (.sl R8), (.sl R9)], [⟨.ret, [2], ⟨[(2, .bool false)], [], 1000⟩, [.bool]⟩, ⟨.exit 0, [1, 2], ⟨[(1, .ptr 1000 0), (2, .bool false)], [(1000, .box [i0, bN R8, bN R9])], 1001⟩, [.bool, iI, (.sl R8), (.sl R9)]⟩], f_impl_WorldOk.l0.u N⟩
noncomputable abbrev f_impl_WorldOk.l1.u (n : Nat) := ap7 (f_impl_WorldOk.l1 n)
noncomputable def f_impl_WorldOk.l1.c : LoopCon := ⟨1193, 4, [0, 1, 4, 7, 8], ⟨[(0, bN R9), (1, .func 52 [.ptr 1000 0]), (4, i0), (7, i0), (8, i0)], [(1000, .box [i0, bN R8, bN R9])], 1193⟩, [(.sl R9), iI, iI, iI, iI, (.sl R8), (.sl R9)], [⟨.ret, [4], ⟨[(4, i0)], [(1000, .box [i0, bN R8, bN R9])], 1193⟩, [iI, iI, (.sl R8), (.sl R9)]⟩, ⟨.exit 0, [4], ⟨[(4, i0)], [(1000, .box [i0, bN R8, bN R9])], 1193⟩, [iI, iI, (.sl R8), (.sl R9)]⟩], f_impl_WorldOk.l1.u N⟩
noncomputable abbrev K17 : Cons := [(49, C49), (50, C50), (52, C52)]
noncomputable abbrev L17 : List (Nat × Loops) := [(17, [(4, f_impl_WorldOk.l0.c)]), (102, [(2, f_impl_WorldOk.l1.c)])]
noncomputable abbrev X17 : Nat → Ctx := ctxOf tb K17 L17 Qe
theorem f_impl_WorldOk.l0.ok : ∀ n p, f_impl_WorldOk.l0.u n p = iterD (roundOf fs X17 6 17 4 false f_impl_WorldOk.l0.c) n p :=
 iter_of (l := f_impl_WorldOk.l0.u) (fun _ => rfl) (fun n p => by kernel_rfl)
theorem f_impl_WorldOk.l1.ok : ∀ n p, f_impl_WorldOk.l1.u n p = iterD (roundOf fs X17 4 102 2 true f_impl_WorldOk.l1.c) n p :=
 iter_of (l := f_impl_WorldOk.l1.u) (fun _ => rfl) (fun n p => by kernel_rfl)
theorem E17 : ∀ x, funRun fs X17 6 17 C17 x = C17.fn x := fun x => by kernel_rfl
theorem B17 : ConB Tryz.prog 17 C17 := ConB.make FS MIX TY (cons := K17) (L := L17) (ptrs := Qe) ⟨S49, S50, S52, trivial⟩ trivial ⟨⟨⟨N, fun p => f_impl_WorldOk.l0.ok N p⟩, trivial⟩, ⟨⟨N, fun p => f_impl_WorldOk.l1.ok N p⟩, trivial⟩, trivial⟩ rfl rfl E17
theorem S17 : ConS Tryz.prog 17 C17 := B17.call rfl
noncomputable def f_impl_named (x0 : Int) (x1 : tyN) (x2 : tyP) (x3 : Int) (x4 : Int) (x5 : Int) (x6 : Int) : Option (Bool) :=
 bif (decide (x3 = (3 : Int))) then
 (f_impl_from x4 0 (IntKind.wrap .i64 ((x2.length : Int) - (1 : Int)))).bind fun y0 =>
 some y0
 else
 bif (decide (x3 = (4 : Int))) then
 (f_impl_from x4 0 (IntKind.wrap .i64 ((x2.length : Int) - (1 : Int)))).bind fun y1 =>
 some y1
 else
 bif (decide (x3 = (5 : Int))) then
 (f_impl_from x4 0 (IntKind.wrap .i64 ((x2.length : Int) - (1 : Int)))).bind fun y2 =>
 some y2
 else
 bif (decide (x3 = (1 : Int))) then
 (f_impl_isOf x4 x0).bind fun y3 =>
 bif y3 then
 (f_impl_isOf x5 x0).bind fun y4 =>
 some y4
 else
 some false
 else
 bif (decide (x3 = (2 : Int))) then
 (f_impl_isOf x4 x0).bind fun y5 =>
 bif y5 then
 (f_impl_isOf x5 x0).bind fun y6 =>
 some y6
 else
 some false
 else
 (f_impl_isOf x4 x0).bind fun y7 =>
 some y7
noncomputable def C75 : Con := ⟨[(.B, true, [iI, (.sl R8), (.sl R9)]), (.B, true, [iI, iI, iI, iI])], [(false, [.bool])], [iI, (.sl R8), (.sl R9), iI, iI, iI, iI], [.bool], ap7 f_impl_named⟩
noncomputable abbrev K75 : Cons := [(49, C49), (89, C89)]
noncomputable abbrev X75 : Nat → Ctx := ctxOf tb K75 Le Qe
theorem E75 : ∀ x, funRun fs X75 6 75 C75 x = C75.fn x := fun x => by kernel_rfl
theorem B75 : ConB Tryz.prog 75 C75 := ConB.make FS MIX TY (cons := K75) (L := Le) (ptrs := Qe) ⟨S49, S89, trivial⟩ trivial trivial rfl rfl E75
theorem S75 : ConS Tryz.prog 75 C75 := B75.call rfl
noncomputable def f_slices_Clone_impl_Receiver_impl_Receiver (x0 : List Int) : Option (List Int) := bif Nat.blt (0 + x0.length) 17592186044416 then some x0 else none
noncomputable def C128 : Con := ⟨[(.B, false, [(.sl R1)])], [(false, [(.sl R1)])], [(.sl R1)], [(.sl R1)], f_slices_Clone_impl_Receiver_impl_Receiver⟩
noncomputable abbrev X128 : Nat → Ctx := ctxOf tb [] [] []
theorem E128 : ∀ x : List R1.den, bodyRun fs X128 6 128 C128 [] [] [.bor (some 1000) R1 x] [] = f_slices_Clone_impl_Receiver_impl_Receiver x := fun x => by kernel_rfl
theorem Z128 : bodyRun fs X128 6 128 C128 [] [] [.nil (some R1)] [] = f_slices_Clone_impl_Receiver_impl_Receiver ([] : List R1.den) := by kernel_rfl
theorem B128 : ConB Tryz.prog 128 C128 := ConB.copy FS MIX TY (cons := []) (L := []) (ptrs := []) trivial trivial trivial rfl E128 Z128
theorem S128 : ConS Tryz.prog 128 C128 := B128.call rfl
noncomputable def f_slices_Clone_int_int (x0 : List Int) : Option (List Int) := bif Nat.blt (0 + x0.length) 17592186044416 then some x0 else none
noncomputable def C111 : Con := ⟨[(.B, false, [(.sl R1)])], [(false, [(.sl R1)])], [(.sl R1)], [(.sl R1)], f_slices_Clone_int_int⟩
noncomputable abbrev X111 : Nat → Ctx := ctxOf tb [] [] []
theorem E111 : ∀ x : List R1.den, bodyRun fs X111 6 111 C111 [] [] [.bor (some 1000) R1 x] [] = f_slices_Clone_int_int x := fun x => by kernel_rfl
theorem Z111 : bodyRun fs X111 6 111 C111 [] [] [.nil (some R1)] [] = f_slices_Clone_int_int ([] : List R1.den) := by kernel_rfl
theorem B111 : ConB Tryz.prog 111 C111 := ConB.copy FS MIX TY (cons := []) (L := []) (ptrs := []) trivial trivial trivial rfl E111 Z111
theorem S111 : ConS Tryz.prog 111 C111 := B111.call rfl
noncomputable def f_impl_copyFrame (x0 : Int) (x1 : List Int) (x2 : Bool) : Option (Int × List Int × Bool) :=
 (f_slices_Clone_int_int x1).bind fun y0 =>
 some (x0, y0, x2)
noncomputable def C129 : Con := ⟨[(.B, true, [iI, (.sl R1), .bool])], [(true, [iI, (.sl R1), .bool])], [iI, (.sl R1), .bool], [iI, (.sl R1), .bool], ap3 f_impl_copyFrame⟩
noncomputable abbrev K129 : Cons := [(111, C111)]
noncomputable abbrev X129 : Nat → Ctx := ctxOf tb K129 Le Qe
theorem E129 : ∀ x, funRun fs X129 6 129 C129 x = C129.fn x := fun x => by kernel_rfl
theorem B129 : ConB Tryz.prog 129 C129 := ConB.make FS MIX TY (cons := K129) (L := Le) (ptrs := Qe) ⟨S111, trivial⟩ trivial trivial rfl rfl E129
theorem S129 : ConS Tryz.prog 129 C129 := B129.call rfl
noncomputable def f_slices_Clone_bool_bool (x0 : List Bool) : Option (List Bool) := bif Nat.blt (0 + x0.length) 140737488355328 then some x0 else none
noncomputable def C180 : Con := ⟨[(.B, false, [(.sl R2)])], [(false, [(.sl R2)])], [(.sl R2)], [(.sl R2)], f_slices_Clone_bool_bool⟩
noncomputable abbrev X180 : Nat → Ctx := ctxOf tb [] [] []
theorem E180 : ∀ x : List R2.den, bodyRun fs X180 6 180 C180 [] [] [.bor (some 1000) R2 x] [] = f_slices_Clone_bool_bool x := fun x => by kernel_rfl
theorem Z180 : bodyRun fs X180 6 180 C180 [] [] [.nil (some R2)] [] = f_slices_Clone_bool_bool ([] : List R2.den) := by kernel_rfl
theorem B180 : ConB Tryz.prog 180 C180 := ConB.copy FS MIX TY (cons := []) (L := []) (ptrs := []) trivial trivial trivial rfl E180 Z180
theorem S180 : ConS Tryz.prog 180 C180 := B180.call rfl
noncomputable def f_slices_Clone_impl_Wait_impl_Wait (x0 : tyW) : Option tyW := bif Nat.blt (0 + x0.length) 8796093022208 then some x0 else none
noncomputable def C181 : Con := ⟨[(.B, false, [(.sl R3)])], [(false, [(.sl R3)])], [(.sl R3)], [(.sl R3)], f_slices_Clone_impl_Wait_impl_Wait⟩
noncomputable abbrev X181 : Nat → Ctx := ctxOf tb [] [] []
theorem E181 : ∀ x : List R3.den, bodyRun fs X181 6 181 C181 [] [] [.bor (some 1000) R3 x] [] = f_slices_Clone_impl_Wait_impl_Wait x := fun x => by kernel_rfl
theorem Z181 : bodyRun fs X181 6 181 C181 [] [] [.nil (some R3)] [] = f_slices_Clone_impl_Wait_impl_Wait ([] : List R3.den) := by kernel_rfl
theorem B181 : ConB Tryz.prog 181 C181 := ConB.copy FS MIX TY (cons := []) (L := []) (ptrs := []) trivial trivial trivial rfl E181 Z181
theorem S181 : ConS Tryz.prog 181 C181 := B181.call rfl
noncomputable def f_impl_copyHome (x0 : List Int) (x1 : Int) (x2 : List Bool) (x3 : Bool) (x4 : Int) (x5 : Bool) (x6 : Int) (x7 : tyW) : Option (List Int × Int × List Bool × Bool × Int × Bool × Int × tyW) :=
 (f_slices_Clone_int_int x0).bind fun y0 =>
 (f_slices_Clone_bool_bool x2).bind fun y1 =>
 (f_slices_Clone_impl_Wait_impl_Wait x7).bind fun y2 =>
 some (y0, x1, y1, x3, x4, x5, x6, y2)
noncomputable def C130 : Con := ⟨[(.B, true, [(.sl R1), iI, (.sl R2), .bool, iI, .bool, iI, (.sl R3)])], [(true, [(.sl R1), iI, (.sl R2), .bool, iI, .bool, iI, (.sl R3)])], [(.sl R1), iI, (.sl R2), .bool, iI, .bool, iI, (.sl R3)], [(.sl R1), iI, (.sl R2), .bool, iI, .bool, iI, (.sl R3)], ap8 f_impl_copyHome⟩
noncomputable abbrev K130 : Cons := [(111, C111), (180, C180), (181, C181)]
noncomputable abbrev X130 : Nat → Ctx := ctxOf tb K130 Le Qe
theorem E130 : ∀ x, funRun fs X130 6 130 C130 x = C130.fn x := fun x => by kernel_rfl
theorem B130 : ConB Tryz.prog 130 C130 := ConB.make FS MIX TY (cons := K130) (L := Le) (ptrs := Qe) ⟨S111, S180, S181, trivial⟩ trivial trivial rfl rfl E130
theorem S130 : ConS Tryz.prog 130 C130 := B130.call rfl
noncomputable def f_impl_copyMsg (x0 : Int) (x1 : Int) (x2 : Bool) (x3 : List Int) : Option (Int × Int × Bool × List Int) :=
 (f_slices_Clone_int_int x3).bind fun y0 =>
 some (x0, x1, x2, y0)
noncomputable def C132 : Con := ⟨[(.B, true, [iI, iI, .bool, (.sl R1)])], [(true, [iI, iI, .bool, (.sl R1)])], [iI, iI, .bool, (.sl R1)], [iI, iI, .bool, (.sl R1)], ap4 f_impl_copyMsg⟩
noncomputable abbrev K132 : Cons := [(111, C111)]
noncomputable abbrev X132 : Nat → Ctx := ctxOf tb K132 Le Qe
theorem E132 : ∀ x, funRun fs X132 6 132 C132 x = C132.fn x := fun x => by kernel_rfl
theorem B132 : ConB Tryz.prog 132 C132 := ConB.make FS MIX TY (cons := K132) (L := Le) (ptrs := Qe) ⟨S111, trivial⟩ trivial trivial rfl rfl E132
theorem S132 : ConS Tryz.prog 132 C132 := B132.call rfl
noncomputable def f_impl_copySender.l0 : Nat → tyM → Int → Int → Int → Int → tyM → tyM → Option (Int × Int × tyM × tyM)
 | 0, _, _, _, _, _, _, _ => none
 | n + 1, p0, p1, p2, p3, p4, p5, p6 =>
 bif (decide (p2 < p1)) then
 bif ((decide ((0 : Int) ≤ p2)) && (decide (p2 < (p0.length : Int)))) then
 (f_impl_copyMsg ((p0.getD p2.toNat (0, 0, false, [])).1) ((p0.getD p2.toNat (0, 0, false, [])).2.1) ((p0.getD p2.toNat (0, 0, false, [])).2.2.1) ((p0.getD p2.toNat (0, 0, false, [])).2.2.2)).bind fun y7 =>
 bif (Nat.blt (p6.length + ([(y7.1, y7.2.1, y7.2.2.1, y7.2.2.2)] : tyM).length) 2932031007402) then
 (some ((p6 ++ ([(y7.1, y7.2.1, y7.2.2.1, y7.2.2.2)] : tyM)) : tyM)).bind fun z8 =>
 f_impl_copySender.l0 n p0 p1 (IntKind.wrap .i64 (p2 + (1 : Int))) p3 p4 p5 z8
 else none
 else none
 else
 some (p3, p4, p5, p6)
noncomputable def f_impl_copySender (x0 : Int) (x1 : tyM) : Option (Int × tyM) :=
 (f_impl_copySender.l0 N x1 (x1.length : Int) 0 0 x0 ([] : tyM) ([] : tyM)).bind fun r0 =>
 some (r0.2.1, r0.2.2.2)
noncomputable def C131 : Con := ⟨[(.B, true, [iI, (.sl R6)])], [(true, [iI, (.sl R6)])], [iI, (.sl R6)], [iI, (.sl R6)], ap2 f_impl_copySender⟩
noncomputable abbrev f_impl_copySender.l0.u (n : Nat) := ap7 (f_impl_copySender.l0 n)
noncomputable def f_impl_copySender.l0.c : LoopCon := ⟨1000, 6, [2, 3, 10, 11, 12], ⟨[(2, .ptr 1000 0), (3, .ptr 1001 0), (10, bN R6), (11, i0), (12, i0)], [(1000, .box [i0, .ref 1002 [] none]), (1001, .box [i0, .ref 1003 [] none]), (1002, .row R6 []), (1003, .row R6 [])], 1004⟩, [(.sl R6), iI, iI, iI, iI, (.sl R6), (.sl R6)], [⟨.exit 0, [2, 3], ⟨[(2, .ptr 1000 0), (3, .ptr 1001 0)], [(1000, .box [i0, .ref 1002 [] none]), (1001, .box [i0, .ref 1003 [] none]), (1002, .row R6 []), (1003, .row R6 [])], 1004⟩, [iI, iI, (.sl R6), (.sl R6)]⟩], f_impl_copySender.l0.u N⟩
noncomputable abbrev K131 : Cons := [(132, C132)]
noncomputable abbrev L131 : List (Nat × Loops) := [(131, [(3, f_impl_copySender.l0.c)])]
noncomputable abbrev X131 : Nat → Ctx := ctxOf tb K131 L131 Qe
theorem f_impl_copySender.l0.ok : ∀ n p, f_impl_copySender.l0.u n p = iterD (roundOf fs X131 6 131 3 false f_impl_copySender.l0.c) n p :=
 iter_of (l := f_impl_copySender.l0.u) (fun _ => rfl) (fun n p => by kernel_rfl)
theorem E131 : ∀ x, funRun fs X131 6 131 C131 x = C131.fn x := fun x => by kernel_rfl
theorem B131 : ConB Tryz.prog 131 C131 := ConB.make FS MIX TY (cons := K131) (L := L131) (ptrs := Qe) ⟨S132, trivial⟩ trivial ⟨⟨⟨N, fun p => f_impl_copySender.l0.ok N p⟩, trivial⟩, trivial⟩ rfl rfl E131
theorem S131 : ConS Tryz.prog 131 C131 := B131.call rfl
noncomputable def f_impl_copyNode.l2 : Nat → tyS → Int → Int → Int → Int → tyF → tyH → tyS → (List Int) → tyF → tyH → tyS → (List Int) → Option (Int × Int × tyF × tyH × tyS × List Int × tyF × tyH × tyS × List Int)
 | 0, _, _, _, _, _, _, _, _, _, _, _, _, _ => none
 | n + 1, p0, p1, p2, p3, p4, p5, p6, p7, p8, p9, p10, p11, p12 =>
 bif (decide (p2 < p1)) then
 bif ((decide ((0 : Int) ≤ p2)) && (decide (p2 < (p0.length : Int)))) then
 (f_impl_copySender ((p0.getD p2.toNat (0, [])).1) ((p0.getD p2.toNat (0, [])).2)).bind fun y13 =>
 bif (Nat.blt (p11.length + ([(y13.1, y13.2)] : tyS).length) 4398046511104) then
 (some ((p11 ++ ([(y13.1, y13.2)] : tyS)) : tyS)).bind fun z14 =>
 f_impl_copyNode.l2 n p0 p1 (IntKind.wrap .i64 (p2 + (1 : Int))) p3 p4 p5 p6 p7 p8 p9 p10 z14 p12
 else none
 else none
 else
 some (p3, p4, p5, p6, p7, p8, p9, p10, p11, p12)
noncomputable def f_impl_copyNode.l1 : Nat → tyH → Int → Int → Int → tyF → tyH → tyS → (List Int) → Int → Int → tyF → tyH → tyS → (List Int) → tyF → tyH → tyS → (List Int) → Option (Int × tyF × tyH × tyS × List Int × Int × Int × tyF × tyH × tyS × List Int × tyF × tyH × tyS × List Int)
 | 0, _, _, _, _, _, _, _, _, _, _, _, _, _, _, _, _, _, _ => none
 | n + 1, p0, p1, p2, p3, p4, p5, p6, p7, p8, p9, p10, p11, p12, p13, p14, p15, p16, p17 =>
 bif (decide (p2 < p1)) then
 bif ((decide ((0 : Int) ≤ p2)) && (decide (p2 < (p0.length : Int)))) then
 (f_impl_copyHome ((p0.getD p2.toNat ([], 0, [], false, 0, false, 0, [])).1) ((p0.getD p2.toNat ([], 0, [], false, 0, false, 0, [])).2.1) ((p0.getD p2.toNat ([], 0, [], false, 0, false, 0, [])).2.2.1) ((p0.getD p2.toNat ([], 0, [], false, 0, false, 0, [])).2.2.2.1) ((p0.getD p2.toNat ([], 0, [], false, 0, false, 0, [])).2.2.2.2.1) ((p0.getD p2.toNat ([], 0, [], false, 0, false, 0, [])).2.2.2.2.2.1) ((p0.getD p2.toNat ([], 0, [], false, 0, false, 0, [])).2.2.2.2.2.2.1) ((p0.getD p2.toNat ([], 0, [], false, 0, false, 0, [])).2.2.2.2.2.2.2)).bind fun y18 =>
 bif (Nat.blt (p15.length + ([(y18.1, y18.2.1, y18.2.2.1, y18.2.2.2.1, y18.2.2.2.2.1, y18.2.2.2.2.2.1, y18.2.2.2.2.2.2.1, y18.2.2.2.2.2.2.2)] : tyH).length) 1256584717458) then
 (some ((p15 ++ ([(y18.1, y18.2.1, y18.2.2.1, y18.2.2.2.1, y18.2.2.2.2.1, y18.2.2.2.2.2.1, y18.2.2.2.2.2.2.1, y18.2.2.2.2.2.2.2)] : tyH)) : tyH)).bind fun z19 =>
 f_impl_copyNode.l1 n p0 p1 (IntKind.wrap .i64 (p2 + (1 : Int))) p3 p4 p5 p6 p7 p8 p9 p10 p11 p12 p13 p14 z19 p16 p17
 else none
 else none
 else
 some (p3, p4, p5, p6, p7, p8, p9, p10, p11, p12, p13, p14, p15, p16, p17)
noncomputable def f_impl_copyNode.l0 : Nat → tyF → Int → Int → Int → tyF → tyH → tyS → (List Int) → Int → Int → tyF → tyH → tyS → (List Int) → tyF → tyH → tyS → (List Int) → Option (Int × tyF × tyH × tyS × List Int × Int × Int × tyF × tyH × tyS × List Int × tyF × tyH × tyS × List Int)
 | 0, _, _, _, _, _, _, _, _, _, _, _, _, _, _, _, _, _, _ => none
 | n + 1, p0, p1, p2, p3, p4, p5, p6, p7, p8, p9, p10, p11, p12, p13, p14, p15, p16, p17 =>
 bif (decide (p2 < p1)) then
 bif ((decide ((0 : Int) ≤ p2)) && (decide (p2 < (p0.length : Int)))) then
 (f_impl_copyFrame ((p0.getD p2.toNat (0, [], false)).1) ((p0.getD p2.toNat (0, [], false)).2.1) ((p0.getD p2.toNat (0, [], false)).2.2)).bind fun y18 =>
 bif (Nat.blt (p14.length + ([(y18.1, y18.2.1, y18.2.2)] : tyF).length) 3518437208883) then
 (some ((p14 ++ ([(y18.1, y18.2.1, y18.2.2)] : tyF)) : tyF)).bind fun z19 =>
 f_impl_copyNode.l0 n p0 p1 (IntKind.wrap .i64 (p2 + (1 : Int))) p3 p4 p5 p6 p7 p8 p9 p10 p11 p12 p13 z19 p15 p16 p17
 else none
 else none
 else
 some (p3, p4, p5, p6, p7, p8, p9, p10, p11, p12, p13, p14, p15, p16, p17)
noncomputable def f_impl_copyNode (x0 : Int) (x1 : tyF) (x2 : tyH) (x3 : tyS) (x4 : List Int) : Option (Int × tyF × tyH × tyS × List Int) :=
 (f_slices_Clone_impl_Receiver_impl_Receiver x4).bind fun y0 =>
 (f_impl_copyNode.l0 N x1 (x1.length : Int) 0 x0 x1 x2 x3 x4 0 x0 ([] : tyF) ([] : tyH) ([] : tyS) ([] : List Int) ([] : tyF) ([] : tyH) ([] : tyS) y0).bind fun r1 =>
 (f_impl_copyNode.l1 N r1.2.2.1 (r1.2.2.1.length : Int) 0 r1.1 r1.2.1 r1.2.2.1 r1.2.2.2.1 r1.2.2.2.2.1 r1.2.2.2.2.2.1 r1.2.2.2.2.2.2.1 r1.2.2.2.2.2.2.2.1 r1.2.2.2.2.2.2.2.2.1 r1.2.2.2.2.2.2.2.2.2.1 r1.2.2.2.2.2.2.2.2.2.2.1 r1.2.2.2.2.2.2.2.2.2.2.2.1 r1.2.2.2.2.2.2.2.2.2.2.2.2.1 r1.2.2.2.2.2.2.2.2.2.2.2.2.2.1 r1.2.2.2.2.2.2.2.2.2.2.2.2.2.2).bind fun r2 =>
 (f_impl_copyNode.l2 N r2.2.2.2.1 (r2.2.2.2.1.length : Int) 0 r2.2.2.2.2.2.1 r2.2.2.2.2.2.2.1 r2.2.2.2.2.2.2.2.1 r2.2.2.2.2.2.2.2.2.1 r2.2.2.2.2.2.2.2.2.2.1 r2.2.2.2.2.2.2.2.2.2.2.1 r2.2.2.2.2.2.2.2.2.2.2.2.1 r2.2.2.2.2.2.2.2.2.2.2.2.2.1 r2.2.2.2.2.2.2.2.2.2.2.2.2.2.1 r2.2.2.2.2.2.2.2.2.2.2.2.2.2.2).bind fun r3 =>
 some (r3.2.1, r3.2.2.2.2.2.2.1, r3.2.2.2.2.2.2.2.1, r3.2.2.2.2.2.2.2.2.1, r3.2.2.2.2.2.2.2.2.2)
noncomputable def C73 : Con := ⟨[(.B, true, [iI, (.sl R4), (.sl R5), (.sl R7), (.sl R1)])], [(true, [iI, (.sl R4), (.sl R5), (.sl R7), (.sl R1)])], [iI, (.sl R4), (.sl R5), (.sl R7), (.sl R1)], [iI, (.sl R4), (.sl R5), (.sl R7), (.sl R1)], ap5 f_impl_copyNode⟩
noncomputable abbrev f_impl_copyNode.l0.u (n : Nat) := ap18 (f_impl_copyNode.l0 n)
noncomputable def f_impl_copyNode.l0.c : LoopCon := ⟨1000, 6, [1, 2, 3, 17, 18, 19], ⟨[(1, .ptr 1000 0), (2, .ptr 1001 0), (3, .ptr 1002 0), (17, bN R4), (18, i0), (19, i0)], [(1000, .box [i0, bN R4, bN R5, bN R7, bN R1]), (1001, .box [i0, .ref 1003 [] none, .ref 1004 [] none, .ref 1005 [] none, .ref 1006 [] none]), (1002, .box [i0, .ref 1007 [] none, .ref 1008 [] none, .ref 1009 [] none, .ref 1010 [] none]), (1003, .row R4 []), (1004, .row R5 []), (1005, .row R7 []), (1006, .row R1 []), (1007, .row R4 []), (1008, .row R5 []), (1009, .row R7 []), (1010, .row R1 [])], 1011⟩, [(.sl R4), iI, iI, iI, (.sl R4), (.sl R5), (.sl R7), (.sl R1), iI, iI, (.sl R4), (.sl R5), (.sl R7), (.sl R1), (.sl R4), (.sl R5), (.sl R7), (.sl R1)], [⟨.exit 0, [1, 2, 3], ⟨[(1, .ptr 1000 0), (2, .ptr 1001 0), (3, .ptr 1002 0)], [(1000, .box [i0, bN R4, bN R5, bN R7, bN R1]), (1001, .box [i0, .ref 1003 [] none, .ref 1004 [] none, .ref 1005 [] none, .ref 1006 [] none]), (1002, .box [i0, .ref 1007 [] none, .ref 1008 [] none, .ref 1009 [] none, .ref 1010 [] none]), (1003, .row R4 []), (1004, .row R5 []), (1005, .row R7 []), (1006, .row R1 []), (1007, .row R4 []), (1008, .row R5 []), (1009, .row R7 []), (1010, .row R1 [])], 1011⟩, [iI, (.sl R4), (.sl R5), (.sl R7), (.sl R1), iI, iI, (.sl R4), (.sl R5), (.sl R7), (.sl R1), (.sl R4), (.sl R5), (.sl R7), (.sl R1)]⟩], f_impl_copyNode.l0.u N⟩
noncomputable abbrev f_impl_copyNode.l1.u (n : Nat) := ap18 (f_impl_copyNode.l1 n)
noncomputable def f_impl_copyNode.l1.c : LoopCon := ⟨1000, 6, [1, 2, 3, 32, 33, 34], ⟨[(1, .ptr 1000 0), (2, .ptr 1001 0), (3, .ptr 1002 0), (32, bN R5), (33, i0), (34, i0)], [(1000, .box [i0, bN R4, bN R5, bN R7, bN R1]), (1001, .box [i0, .ref 1003 [] none, .ref 1004 [] none, .ref 1005 [] none, .ref 1006 [] none]), (1002, .box [i0, .ref 1007 [] none, .ref 1008 [] none, .ref 1009 [] none, .ref 1010 [] none]), (1003, .row R4 []), (1004, .row R5 []), (1005, .row R7 []), (1006, .row R1 []), (1007, .row R4 []), (1008, .row R5 []), (1009, .row R7 []), (1010, .row R1 [])], 1011⟩, [(.sl R5), iI, iI, iI, (.sl R4), (.sl R5), (.sl R7), (.sl R1), iI, iI, (.sl R4), (.sl R5), (.sl R7), (.sl R1), (.sl R4), (.sl R5), (.sl R7), (.sl R1)], [⟨.exit 2, [1, 2, 3], ⟨[(1, .ptr 1000 0), (2, .ptr 1001 0), (3, .ptr 1002 0)], [(1000, .box [i0, bN R4, bN R5, bN R7, bN R1]), (1001, .box [i0, .ref 1003 [] none, .ref 1004 [] none, .ref 1005 [] none, .ref 1006 [] none]), (1002, .box [i0, .ref 1007 [] none, .ref 1008 [] none, .ref 1009 [] none, .ref 1010 [] none]), (1003, .row R4 []), (1004, .row R5 []), (1005, .row R7 []), (1006, .row R1 []), (1007, .row R4 []), (1008, .row R5 []), (1009, .row R7 []), (1010, .row R1 [])], 1011⟩, [iI, (.sl R4), (.sl R5), (.sl R7), (.sl R1), iI, iI, (.sl R4), (.sl R5), (.sl R7), (.sl R1), (.sl R4), (.sl R5), (.sl R7), (.sl R1)]⟩], f_impl_copyNode.l1.u N⟩
noncomputable abbrev f_impl_copyNode.l2.u (n : Nat) := ap13 (f_impl_copyNode.l2 n)
noncomputable def f_impl_copyNode.l2.c : LoopCon := ⟨1000, 6, [2, 3, 47, 48, 49], ⟨[(2, .ptr 1000 0), (3, .ptr 1001 0), (47, bN R7), (48, i0), (49, i0)], [(1000, .box [i0, .ref 1002 [] none, .ref 1003 [] none, .ref 1004 [] none, .ref 1005 [] none]), (1001, .box [i0, .ref 1006 [] none, .ref 1007 [] none, .ref 1008 [] none, .ref 1009 [] none]), (1002, .row R4 []), (1003, .row R5 []), (1004, .row R7 []), (1005, .row R1 []), (1006, .row R4 []), (1007, .row R5 []), (1008, .row R7 []), (1009, .row R1 [])], 1010⟩, [(.sl R7), iI, iI, iI, iI, (.sl R4), (.sl R5), (.sl R7), (.sl R1), (.sl R4), (.sl R5), (.sl R7), (.sl R1)], [⟨.exit 4, [2, 3], ⟨[(2, .ptr 1000 0), (3, .ptr 1001 0)], [(1000, .box [i0, .ref 1002 [] none, .ref 1003 [] none, .ref 1004 [] none, .ref 1005 [] none]), (1001, .box [i0, .ref 1006 [] none, .ref 1007 [] none, .ref 1008 [] none, .ref 1009 [] none]), (1002, .row R4 []), (1003, .row R5 []), (1004, .row R7 []), (1005, .row R1 []), (1006, .row R4 []), (1007, .row R5 []), (1008, .row R7 []), (1009, .row R1 [])], 1010⟩, [iI, iI, (.sl R4), (.sl R5), (.sl R7), (.sl R1), (.sl R4), (.sl R5), (.sl R7), (.sl R1)]⟩], f_impl_copyNode.l2.u N⟩
noncomputable abbrev K73 : Cons := [(128, C128), (129, C129), (130, C130), (131, C131)]
noncomputable abbrev L73 : List (Nat × Loops) := [(73, [(3, f_impl_copyNode.l0.c), (8, f_impl_copyNode.l1.c), (13, f_impl_copyNode.l2.c)])]
noncomputable abbrev X73 : Nat → Ctx := ctxOf tb K73 L73 Qe
theorem f_impl_copyNode.l0.ok : ∀ n p, f_impl_copyNode.l0.u n p = iterD (roundOf fs X73 6 73 3 false f_impl_copyNode.l0.c) n p :=
 iter_of (l := f_impl_copyNode.l0.u) (fun _ => rfl) (fun n p => by kernel_rfl)
theorem f_impl_copyNode.l1.ok : ∀ n p, f_impl_copyNode.l1.u n p = iterD (roundOf fs X73 6 73 8 false f_impl_copyNode.l1.c) n p :=
 iter_of (l := f_impl_copyNode.l1.u) (fun _ => rfl) (fun n p => by kernel_rfl)
theorem f_impl_copyNode.l2.ok : ∀ n p, f_impl_copyNode.l2.u n p = iterD (roundOf fs X73 6 73 13 false f_impl_copyNode.l2.c) n p :=
 iter_of (l := f_impl_copyNode.l2.u) (fun _ => rfl) (fun n p => by kernel_rfl)
theorem E73 : ∀ x, funRun fs X73 6 73 C73 x = C73.fn x := fun x => by kernel_rfl
theorem B73 : ConB Tryz.prog 73 C73 := ConB.make FS MIX TY (cons := K73) (L := L73) (ptrs := Qe) ⟨S128, S129, S130, S131, trivial⟩ trivial ⟨⟨⟨N, fun p => f_impl_copyNode.l0.ok N p⟩, ⟨N, fun p => f_impl_copyNode.l1.ok N p⟩, ⟨N, fun p => f_impl_copyNode.l2.ok N p⟩, trivial⟩, trivial⟩ rfl rfl E73
theorem S73 : ConS Tryz.prog 73 C73 := B73.call rfl
noncomputable def f_impl_copyPacket (x0 : Int) (x1 : Int) (x2 : Bool) (x3 : Int) (x4 : Int) (x5 : Int) (x6 : Bool) (x7 : List Int) : Option (Int × Int × Bool × Int × Int × Int × Bool × List Int) :=
 (f_impl_copyMsg x4 x5 x6 x7).bind fun y0 =>
 some (x0, x1, x2, x3, y0.1, y0.2.1, y0.2.2.1, y0.2.2.2)
noncomputable def C74 : Con := ⟨[(.B, true, [iI, iI, .bool, iI, iI, iI, .bool, (.sl R1)])], [(true, [iI, iI, .bool, iI, iI, iI, .bool, (.sl R1)])], [iI, iI, .bool, iI, iI, iI, .bool, (.sl R1)], [iI, iI, .bool, iI, iI, iI, .bool, (.sl R1)], ap8 f_impl_copyPacket⟩
noncomputable abbrev K74 : Cons := [(132, C132)]
noncomputable abbrev X74 : Nat → Ctx := ctxOf tb K74 Le Qe
theorem E74 : ∀ x, funRun fs X74 6 74 C74 x = C74.fn x := fun x => by kernel_rfl
theorem B74 : ConB Tryz.prog 74 C74 := ConB.make FS MIX TY (cons := K74) (L := Le) (ptrs := Qe) ⟨S132, trivial⟩ trivial trivial rfl rfl E74
theorem S74 : ConS Tryz.prog 74 C74 := B74.call rfl
noncomputable def f_impl_copyWorld.l1 : Nat → tyP → Int → Int → Int → Int → tyN → tyP → tyN → tyP → Option (Int × Int × tyN × tyP × tyN × tyP)
 | 0, _, _, _, _, _, _, _, _, _ => none
 | n + 1, p0, p1, p2, p3, p4, p5, p6, p7, p8 =>
 bif (decide (p2 < p1)) then
 bif ((decide ((0 : Int) ≤ p2)) && (decide (p2 < (p0.length : Int)))) then
 (f_impl_copyPacket ((p0.getD p2.toNat (0, 0, false, 0, 0, 0, false, [])).1) ((p0.getD p2.toNat (0, 0, false, 0, 0, 0, false, [])).2.1) ((p0.getD p2.toNat (0, 0, false, 0, 0, 0, false, [])).2.2.1) ((p0.getD p2.toNat (0, 0, false, 0, 0, 0, false, [])).2.2.2.1) ((p0.getD p2.toNat (0, 0, false, 0, 0, 0, false, [])).2.2.2.2.1) ((p0.getD p2.toNat (0, 0, false, 0, 0, 0, false, [])).2.2.2.2.2.1) ((p0.getD p2.toNat (0, 0, false, 0, 0, 0, false, [])).2.2.2.2.2.2.1) ((p0.getD p2.toNat (0, 0, false, 0, 0, 0, false, [])).2.2.2.2.2.2.2)).bind fun y9 =>
 bif (Nat.blt (p8.length + ([(y9.1, y9.2.1, y9.2.2.1, y9.2.2.2.1, y9.2.2.2.2.1, y9.2.2.2.2.2.1, y9.2.2.2.2.2.2.1, y9.2.2.2.2.2.2.2)] : tyP).length) 1759218604441) then
 (some ((p8 ++ ([(y9.1, y9.2.1, y9.2.2.1, y9.2.2.2.1, y9.2.2.2.2.1, y9.2.2.2.2.2.1, y9.2.2.2.2.2.2.1, y9.2.2.2.2.2.2.2)] : tyP)) : tyP)).bind fun z10 =>
 f_impl_copyWorld.l1 n p0 p1 (IntKind.wrap .i64 (p2 + (1 : Int))) p3 p4 p5 p6 p7 z10
 else none
 else none
 else
 some (p3, p4, p5, p6, p7, p8)
noncomputable def f_impl_copyWorld.l0 : Nat → tyN → Int → Int → Int → tyN → tyP → Int → Int → tyN → tyP → tyN → tyP → Option (Int × tyN × tyP × Int × Int × tyN × tyP × tyN × tyP)
 | 0, _, _, _, _, _, _, _, _, _, _, _, _ => none
 | n + 1, p0, p1, p2, p3, p4, p5, p6, p7, p8, p9, p10, p11 =>
 bif (decide (p2 < p1)) then
 bif ((decide ((0 : Int) ≤ p2)) && (decide (p2 < (p0.length : Int)))) then
 (f_impl_copyNode ((p0.getD p2.toNat (0, [], [], [], [])).1) ((p0.getD p2.toNat (0, [], [], [], [])).2.1) ((p0.getD p2.toNat (0, [], [], [], [])).2.2.1) ((p0.getD p2.toNat (0, [], [], [], [])).2.2.2.1) ((p0.getD p2.toNat (0, [], [], [], [])).2.2.2.2)).bind fun y12 =>
 bif (Nat.blt (p10.length + ([(y12.1, y12.2.1, y12.2.2.1, y12.2.2.2.1, y12.2.2.2.2)] : tyN).length) 1353245080339) then
 (some ((p10 ++ ([(y12.1, y12.2.1, y12.2.2.1, y12.2.2.2.1, y12.2.2.2.2)] : tyN)) : tyN)).bind fun z13 =>
 f_impl_copyWorld.l0 n p0 p1 (IntKind.wrap .i64 (p2 + (1 : Int))) p3 p4 p5 p6 p7 p8 p9 z13 p11
 else none
 else none
 else
 some (p3, p4, p5, p6, p7, p8, p9, p10, p11)
noncomputable def f_impl_copyWorld (x0 : Int) (x1 : tyN) (x2 : tyP) : Option (Int × tyN × tyP) :=
 (f_impl_copyWorld.l0 N x1 (x1.length : Int) 0 x0 x1 x2 0 x0 ([] : tyN) ([] : tyP) ([] : tyN) ([] : tyP)).bind fun r0 =>
 (f_impl_copyWorld.l1 N r0.2.2.1 (r0.2.2.1.length : Int) 0 r0.2.2.2.1 r0.2.2.2.2.1 r0.2.2.2.2.2.1 r0.2.2.2.2.2.2.1 r0.2.2.2.2.2.2.2.1 r0.2.2.2.2.2.2.2.2).bind fun r1 =>
 some (r1.2.1, r1.2.2.2.2.1, r1.2.2.2.2.2)
noncomputable def C40 : Con := ⟨[(.B, true, [iI, (.sl R8), (.sl R9)])], [(true, [iI, (.sl R8), (.sl R9)])], [iI, (.sl R8), (.sl R9)], [iI, (.sl R8), (.sl R9)], ap3 f_impl_copyWorld⟩
noncomputable abbrev f_impl_copyWorld.l0.u (n : Nat) := ap12 (f_impl_copyWorld.l0 n)
noncomputable def f_impl_copyWorld.l0.c : LoopCon := ⟨1000, 6, [1, 2, 3, 12, 13, 14], ⟨[(1, .ptr 1000 0), (2, .ptr 1001 0), (3, .ptr 1002 0), (12, bN R8), (13, i0), (14, i0)], [(1000, .box [i0, bN R8, bN R9]), (1001, .box [i0, .ref 1003 [] none, .ref 1004 [] none]), (1002, .box [i0, .ref 1005 [] none, .ref 1006 [] none]), (1003, .row R8 []), (1004, .row R9 []), (1005, .row R8 []), (1006, .row R9 [])], 1007⟩, [(.sl R8), iI, iI, iI, (.sl R8), (.sl R9), iI, iI, (.sl R8), (.sl R9), (.sl R8), (.sl R9)], [⟨.exit 0, [1, 2, 3], ⟨[(1, .ptr 1000 0), (2, .ptr 1001 0), (3, .ptr 1002 0)], [(1000, .box [i0, bN R8, bN R9]), (1001, .box [i0, .ref 1003 [] none, .ref 1004 [] none]), (1002, .box [i0, .ref 1005 [] none, .ref 1006 [] none]), (1003, .row R8 []), (1004, .row R9 []), (1005, .row R8 []), (1006, .row R9 [])], 1007⟩, [iI, (.sl R8), (.sl R9), iI, iI, (.sl R8), (.sl R9), (.sl R8), (.sl R9)]⟩], f_impl_copyWorld.l0.u N⟩
noncomputable abbrev f_impl_copyWorld.l1.u (n : Nat) := ap9 (f_impl_copyWorld.l1 n)
noncomputable def f_impl_copyWorld.l1.c : LoopCon := ⟨1000, 6, [2, 3, 27, 28, 29], ⟨[(2, .ptr 1000 0), (3, .ptr 1001 0), (27, bN R9), (28, i0), (29, i0)], [(1000, .box [i0, .ref 1002 [] none, .ref 1003 [] none]), (1001, .box [i0, .ref 1004 [] none, .ref 1005 [] none]), (1002, .row R8 []), (1003, .row R9 []), (1004, .row R8 []), (1005, .row R9 [])], 1006⟩, [(.sl R9), iI, iI, iI, iI, (.sl R8), (.sl R9), (.sl R8), (.sl R9)], [⟨.exit 2, [2, 3], ⟨[(2, .ptr 1000 0), (3, .ptr 1001 0)], [(1000, .box [i0, .ref 1002 [] none, .ref 1003 [] none]), (1001, .box [i0, .ref 1004 [] none, .ref 1005 [] none]), (1002, .row R8 []), (1003, .row R9 []), (1004, .row R8 []), (1005, .row R9 [])], 1006⟩, [iI, iI, (.sl R8), (.sl R9), (.sl R8), (.sl R9)]⟩], f_impl_copyWorld.l1.u N⟩
noncomputable abbrev K40 : Cons := [(73, C73), (74, C74)]
noncomputable abbrev L40 : List (Nat × Loops) := [(40, [(3, f_impl_copyWorld.l0.c), (8, f_impl_copyWorld.l1.c)])]
noncomputable abbrev X40 : Nat → Ctx := ctxOf tb K40 L40 Qe
theorem f_impl_copyWorld.l0.ok : ∀ n p, f_impl_copyWorld.l0.u n p = iterD (roundOf fs X40 6 40 3 false f_impl_copyWorld.l0.c) n p :=
 iter_of (l := f_impl_copyWorld.l0.u) (fun _ => rfl) (fun n p => by kernel_rfl)
theorem f_impl_copyWorld.l1.ok : ∀ n p, f_impl_copyWorld.l1.u n p = iterD (roundOf fs X40 6 40 8 false f_impl_copyWorld.l1.c) n p :=
 iter_of (l := f_impl_copyWorld.l1.u) (fun _ => rfl) (fun n p => by kernel_rfl)
theorem E40 : ∀ x, funRun fs X40 6 40 C40 x = C40.fn x := fun x => by kernel_rfl
theorem B40 : ConB Tryz.prog 40 C40 := ConB.make FS MIX TY (cons := K40) (L := L40) (ptrs := Qe) ⟨S73, S74, trivial⟩ trivial ⟨⟨⟨N, fun p => f_impl_copyWorld.l0.ok N p⟩, ⟨N, fun p => f_impl_copyWorld.l1.ok N p⟩, trivial⟩, trivial⟩ rfl rfl E40
theorem S40 : ConS Tryz.prog 40 C40 := B40.call rfl
noncomputable def f_impl_World_send (x0 : Int) (x1 : tyN) (x2 : tyP) (x3 : Int) (x4 : Int) (x5 : Int) (x6 : Int) : Option (Int × Int × tyN × tyP) :=
 bif ((decide ((0 : Int) ≤ x4)) && (decide (x4 < (x1.length : Int)))) then
 bif ((decide ((0 : Int) ≤ x5)) && (decide (x5 < (((x1.getD x4.toNat (0, [], [], [], [])).2.2.2.1).length : Int)))) then
 (f_impl_from x6 0 (IntKind.wrap .i64 ((((((x1.getD x4.toNat (0, [], [], [], [])).2.2.2.1).getD x5.toNat (0, [])).2).length : Int) - (1 : Int)))).bind fun y0 =>
 bif (!y0) then
 some (3, x0, x1, x2)
 else
 bif (decide ((x2.length : Int) = (40 : Int))) then
 some (4, x0, x1, x2)
 else
 bif ((decide ((0 : Int) ≤ x6)) && (decide (x6 < (((((x1.getD x4.toNat (0, [], [], [], [])).2.2.2.1).getD x5.toNat (0, [])).2).length : Int)))) then
 (f_impl_copyMsg ((((((x1.getD x4.toNat (0, [], [], [], [])).2.2.2.1).getD x5.toNat (0, [])).2).getD x6.toNat (0, 0, false, [])).1) ((((((x1.getD x4.toNat (0, [], [], [], [])).2.2.2.1).getD x5.toNat (0, [])).2).getD x6.toNat (0, 0, false, [])).2.1) ((((((x1.getD x4.toNat (0, [], [], [], [])).2.2.2.1).getD x5.toNat (0, [])).2).getD x6.toNat (0, 0, false, [])).2.2.1) ((((((x1.getD x4.toNat (0, [], [], [], [])).2.2.2.1).getD x5.toNat (0, [])).2).getD x6.toNat (0, 0, false, [])).2.2.2)).bind fun y1 =>
 bif (Nat.blt (x2.length + ([(x4, x5, false, (IntKind.wrap .i64 (((((x1.getD x4.toNat (0, [], [], [], [])).2.2.2.1).getD x5.toNat (0, [])).1) + x6)), y1.1, y1.2.1, y1.2.2.1, y1.2.2.2)] : tyP).length) 1759218604441) then
 (some ((x2 ++ ([(x4, x5, false, (IntKind.wrap .i64 (((((x1.getD x4.toNat (0, [], [], [], [])).2.2.2.1).getD x5.toNat (0, [])).1) + x6)), y1.1, y1.2.1, y1.2.2.1, y1.2.2.2)] : tyP)) : tyP)).bind fun z2 =>
 some (0, x0, x1, z2)
 else none
 else none
 else none
 else none
noncomputable def C133 : Con := ⟨[(.P [true, true, true], false, [iI, (.sl R8), (.sl R9)]), (.B, true, [iI, iI, iI, iI])], [(false, [iI])], [iI, (.sl R8), (.sl R9), iI, iI, iI, iI], [iI, iI, (.sl R8), (.sl R9)], ap7 f_impl_World_send⟩
noncomputable abbrev K133 : Cons := [(49, C49), (132, C132)]
noncomputable abbrev X133 : Nat → Ctx := ctxOf tb K133 Le Qe
theorem E133 : ∀ x, funG fs X133 6 133 C133 x = C133.fn x := fun x => by kernel_rfl
theorem B133 : ConG Tryz.prog 133 C133 := ConG.make FS MIX TY (cons := K133) (L := Le) (ptrs := Qe) ⟨S49, S132, trivial⟩ trivial trivial rfl (by kernel_rfl) E133
theorem S133 : ConS Tryz.prog 133 C133 := B133.call (by kernel_rfl)
noncomputable def C135 : Con := ⟨[], [], [.sl R9], [], fun _ => none⟩
theorem S135 : ConS Tryz.prog 135 C135 := ConS.delete (ρ := Tryz.delete135_ren) Tryz.delete135 TY (t := 25) (r := R9) (by kernel_rfl) (by kernel_rfl) rfl Tryz.sizeOf81 Tryz.zeroValue81 rfl (by kernel_rfl) (FS 135 Tryz.f135 rfl).enters
noncomputable def f_impl_Acked (x0 : Int) (x1 : tyM) (x2 : Int) : Option (Int × tyM) :=
 (f_impl_copySender x0 x1).bind fun y0 =>
 (f_impl_SenderOk y0.1 y0.2).bind fun y1 =>
 bif (!y1) then
 some (y0.1, y0.2)
 else
 (f_impl_from x2 y0.1 (IntKind.wrap .i64 (y0.1 + (y0.2.length : Int)))).bind fun y2 =>
 bif (!y2) then
 some (y0.1, y0.2)
 else
 bif ((decide ((0 : Int) ≤ (IntKind.wrap .i64 (x2 - y0.1)))) && (decide ((IntKind.wrap .i64 (x2 - y0.1)) ≤ (y0.2.length : Int)))) then
 some (x2, ((y0.2.drop (IntKind.wrap .i64 (x2 - y0.1)).toNat).take ((y0.2.length : Int) - (IntKind.wrap .i64 (x2 - y0.1))).toNat))
 else none
noncomputable def C182 : Con := ⟨[(.B, true, [iI, (.sl R6)]), (.B, false, [iI])], [(true, [iI, (.sl R6)])], [iI, (.sl R6), iI], [iI, (.sl R6)], ap3 f_impl_Acked⟩
noncomputable abbrev K182 : Cons := [(49, C49), (98, C98), (131, C131)]
noncomputable abbrev X182 : Nat → Ctx := ctxOf tb K182 Le Qe
theorem E182 : ∀ x, funRun fs X182 6 182 C182 x = C182.fn x := fun x => by kernel_rfl
theorem B182 : ConB Tryz.prog 182 C182 := ConB.make FS MIX TY (cons := K182) (L := Le) (ptrs := Qe) ⟨S49, S98, S131, trivial⟩ trivial trivial rfl rfl E182
theorem S182 : ConS Tryz.prog 182 C182 := B182.call rfl
noncomputable def f_impl_Arrived (x0 : Int) (x1 : Int) : Option (Int × Bool) :=
 bif (!(decide (x1 = x0))) then
 some (x0, false)
 else
 (f_impl_from x0 0 99999).bind fun y0 =>
 bif (!y0) then
 some (x0, false)
 else
 some ((IntKind.wrap .i64 (x0 + (1 : Int))), true)
noncomputable def C183 : Con := ⟨[(.B, true, [iI]), (.B, false, [iI])], [(true, [iI]), (false, [.bool])], [iI, iI], [iI, .bool], ap2 f_impl_Arrived⟩
noncomputable abbrev K183 : Cons := [(49, C49)]
noncomputable abbrev X183 : Nat → Ctx := ctxOf tb K183 Le Qe
theorem E183 : ∀ x, funRun fs X183 6 183 C183 x = C183.fn x := fun x => by kernel_rfl
theorem B183 : ConB Tryz.prog 183 C183 := ConB.make FS MIX TY (cons := K183) (L := Le) (ptrs := Qe) ⟨S49, trivial⟩ trivial trivial rfl rfl E183
theorem S183 : ConS Tryz.prog 183 C183 := B183.call rfl
noncomputable def f_impl_keeper_give (x0 : List Int) (x1 : Int) (x2 : List Bool) (x3 : Bool) (x4 : Int) (x5 : Bool) (x6 : Int) (x7 : tyW) (x8 : Int) (x9 : tyT) : Option (List Int × Int × List Bool × Bool × Int × Bool × Int × tyW × Int × tyT) :=
 (f_slices_Clone_int_int x0).bind fun y0 =>
 bif (Nat.blt (x9.length + ([(x4, 3, x8, x5, y0)] : tyT).length) 2513169434916) then
 (some ((x9 ++ ([(x4, 3, x8, x5, y0)] : tyT)) : tyT)).bind fun z1 =>
 bif ((decide ((0 : Int) ≤ x4)) && (decide (x4 < (x2.length : Int)))) then
 (some ((x2.set x4.toNat (!x5)) : List Bool)).bind fun z2 =>
 bif x5 then
 some (x0, x4, z2, false, 0, false, x6, x7, x8, z1)
 else
 some (x0, x1, z2, false, 0, false, x6, x7, x8, z1)
 else none
 else none
noncomputable def C233 : Con := ⟨[(.P [true, true, true, true, true, true, true, true, true, true], false, [(.sl R1), iI, (.sl R2), .bool, iI, .bool, iI, (.sl R3), iI, (.sl R10)])], [], [(.sl R1), iI, (.sl R2), .bool, iI, .bool, iI, (.sl R3), iI, (.sl R10)], [(.sl R1), iI, (.sl R2), .bool, iI, .bool, iI, (.sl R3), iI, (.sl R10)], ap10 f_impl_keeper_give⟩
noncomputable abbrev K233 : Cons := [(111, C111)]
noncomputable abbrev X233 : Nat → Ctx := ctxOf tb K233 Le Qe
theorem E233 : ∀ x, funG fs X233 6 233 C233 x = C233.fn x := fun x => by kernel_rfl
theorem B233 : ConG Tryz.prog 233 C233 := ConG.make FS MIX TY (cons := K233) (L := Le) (ptrs := Qe) ⟨S111, trivial⟩ trivial trivial rfl (by kernel_rfl) E233
theorem S233 : ConS Tryz.prog 233 C233 := B233.call (by kernel_rfl)
noncomputable def f_impl_keeper_begin.l0 : Nat → Int → Int → Int → Bool → Int → Bool → Int → Int → Int → Int → (List Bool) → (List Int) → tyW → tyT → Option (Int × Bool × Int × Bool × Int × Int × Int × Int × List Int × List Bool × tyW × tyT)
 | 0, _, _, _, _, _, _, _, _, _, _, _, _, _, _ => none
 | n + 1, p0, p1, p2, p3, p4, p5, p6, p7, p8, p9, p10, p11, p12, p13 =>
 bif (decide (p1 < p0)) then
 bif ((decide ((0 : Int) ≤ p1)) && (decide (p1 < (p10.length : Int)))) then
 bif p5 then
 bif (p10.getD p1.toNat false) then
 bif (!(decide (p1 = p4))) then
 bif (Nat.blt (p13.length + ([(p1, 4, p9, false, [])] : tyT).length) 2513169434916) then
 (some ((p13 ++ ([(p1, 4, p9, false, [])] : tyT)) : tyT)).bind fun z14 =>
 bif ((decide ((0 : Int) ≤ p1)) && (decide (p1 < (p10.length : Int)))) then
 (some ((p10.set p1.toNat false) : List Bool)).bind fun z15 =>
 f_impl_keeper_begin.l0 n p0 (IntKind.wrap .i64 (p1 + (1 : Int))) p2 p3 p4 p5 (IntKind.wrap .i64 (p6 + (1 : Int))) p7 p8 p9 z15 p11 p12 z14
 else none
 else none
 else
 f_impl_keeper_begin.l0 n p0 (IntKind.wrap .i64 (p1 + (1 : Int))) p2 p3 p4 p5 p6 p7 p8 p9 p10 p11 p12 p13
 else
 f_impl_keeper_begin.l0 n p0 (IntKind.wrap .i64 (p1 + (1 : Int))) p2 p3 p4 p5 p6 p7 p8 p9 p10 p11 p12 p13
 else
 f_impl_keeper_begin.l0 n p0 (IntKind.wrap .i64 (p1 + (1 : Int))) p2 p3 p4 p5 p6 p7 p8 p9 p10 p11 p12 p13
 else none
 else
 some (p2, p3, p4, p5, p6, p7, p8, p9, p11, p10, p12, p13)
noncomputable def f_impl_keeper_begin (x0 : List Int) (x1 : Int) (x2 : List Bool) (x3 : Bool) (x4 : Int) (x5 : Bool) (x6 : Int) (x7 : tyW) (x8 : Int) (x9 : tyT) : Option (List Int × Int × List Bool × Bool × Int × Bool × Int × tyW × Int × tyT) :=
 bif (decide ((0 : Int) < (x7.length : Int))) then
 bif (decide ((1 : Int) ≤ (x7.length : Int))) then
 bif (decide ((0 : Int) ≤ x1)) then
 bif (Nat.blt (x9.length + ([(x1, 6, x8, (x7.getD 0 (0, false)).2, [])] : tyT).length) 2513169434916) then
 (some ((x9 ++ ([(x1, 6, x8, (x7.getD 0 (0, false)).2, [])] : tyT)) : tyT)).bind fun z0 =>
 some (x0, x1, x2, true, (x7.getD 0 (0, false)).1, (x7.getD 0 (0, false)).2, x6, ((x7.drop 1).take ((x7.length : Int) - (1 : Int)).toNat), x8, z0)
 else none
 else
 (f_impl_keeper_begin.l0 N (x2.length : Int) 0 x1 true ((x7.getD 0 (0, false)).1) ((x7.getD 0 (0, false)).2) 0 1 ((x7.length : Int) - (1 : Int)) x8 x2 x0 x7 x9).bind fun r1 =>
 bif (decide (r1.2.2.2.2.1 = (0 : Int))) then
 (f_impl_keeper_give r1.2.2.2.2.2.2.2.2.1 r1.1 r1.2.2.2.2.2.2.2.2.2.1 r1.2.1 r1.2.2.1 r1.2.2.2.1 r1.2.2.2.2.1 ((r1.2.2.2.2.2.2.2.2.2.2.1.drop r1.2.2.2.2.2.1.toNat).take r1.2.2.2.2.2.2.1.toNat) r1.2.2.2.2.2.2.2.1 r1.2.2.2.2.2.2.2.2.2.2.2).bind fun y2 =>
 some (y2.1, y2.2.1, y2.2.2.1, y2.2.2.2.1, y2.2.2.2.2.1, y2.2.2.2.2.2.1, y2.2.2.2.2.2.2.1, y2.2.2.2.2.2.2.2.1, y2.2.2.2.2.2.2.2.2.1, y2.2.2.2.2.2.2.2.2.2)
 else
 some (r1.2.2.2.2.2.2.2.2.1, r1.1, r1.2.2.2.2.2.2.2.2.2.1, r1.2.1, r1.2.2.1, r1.2.2.2.1, r1.2.2.2.2.1, ((r1.2.2.2.2.2.2.2.2.2.2.1.drop r1.2.2.2.2.2.1.toNat).take r1.2.2.2.2.2.2.1.toNat), r1.2.2.2.2.2.2.2.1, r1.2.2.2.2.2.2.2.2.2.2.2)
 else none
 else none
noncomputable def C234 : Con := ⟨[(.P [true, true, true, true, true, true, true, true, true, true], false, [(.sl R1), iI, (.sl R2), .bool, iI, .bool, iI, (.sl R3), iI, (.sl R10)])], [], [(.sl R1), iI, (.sl R2), .bool, iI, .bool, iI, (.sl R3), iI, (.sl R10)], [(.sl R1), iI, (.sl R2), .bool, iI, .bool, iI, (.sl R3), iI, (.sl R10)], ap10 f_impl_keeper_begin⟩
noncomputable abbrev f_impl_keeper_begin.l0.u (n : Nat) := ap14 (f_impl_keeper_begin.l0 n)
noncomputable def f_impl_keeper_begin.l0.c : LoopCon := ⟨1000, 6, [0, 69, 70, 71], ⟨[(0, .ptr 500 0), (69, .ref 1000 [] none), (70, i0), (71, i0)], [(500, .box [.ref 1001 [] none, i0, .ref 1000 [] none, .bool false, i0, .bool false, i0, .ref 1002 [] (some (0, 0)), i0, .ref 1003 [] none]), (1000, .row R2 []), (1001, .row R1 []), (1002, .row R3 []), (1003, .row R10 [])], 1004⟩, [iI, iI, iI, .bool, iI, .bool, iI, iI, iI, iI, (.sl R2), (.sl R1), (.sl R3), (.sl R10)], [⟨.exit 0, [0], ⟨[(0, .ptr 500 0)], [(500, .box [.ref 1000 [] none, i0, .ref 1001 [] none, .bool false, i0, .bool false, i0, .ref 1002 [] (some (0, 0)), i0, .ref 1003 [] none]), (1000, .row R1 []), (1001, .row R2 []), (1002, .row R3 []), (1003, .row R10 [])], 1004⟩, [iI, .bool, iI, .bool, iI, iI, iI, iI, (.sl R1), (.sl R2), (.sl R3), (.sl R10)]⟩], f_impl_keeper_begin.l0.u N⟩
noncomputable abbrev K234 : Cons := [(233, C233)]
noncomputable abbrev L234 : List (Nat × Loops) := [(234, [(7, f_impl_keeper_begin.l0.c)])]
noncomputable abbrev X234 : Nat → Ctx := ctxOf tb K234 L234 Qe
theorem f_impl_keeper_begin.l0.ok : ∀ n p, f_impl_keeper_begin.l0.u n p = iterD (roundOf fs X234 6 234 7 false f_impl_keeper_begin.l0.c) n p :=
 iter_of (l := f_impl_keeper_begin.l0.u) (fun _ => rfl) (fun n p => by kernel_rfl)
theorem E234 : ∀ x, funG fs X234 6 234 C234 x = C234.fn x := fun x => by kernel_rfl
theorem B234 : ConG Tryz.prog 234 C234 := ConG.make FS MIX TY (cons := K234) (L := L234) (ptrs := Qe) ⟨S233, trivial⟩ trivial ⟨⟨⟨N, fun p => f_impl_keeper_begin.l0.ok N p⟩, trivial⟩, trivial⟩ rfl (by kernel_rfl) E234
theorem S234 : ConS Tryz.prog 234 C234 := B234.call (by kernel_rfl)
noncomputable def f_impl_HomeHear.l1 : Nat → Int → Bool → Int → Bool → Int → Int → Bool → Int → Bool → Int → Int → (List Int) → (List Bool) → tyW → (List Int) → (List Bool) → tyW → tyT → Option (Int × Bool × Int × Bool × Int × Int × Bool × Int × Bool × Int × Int × List Int × List Bool × tyW × List Int × List Bool × tyW × tyT)
 | 0, _, _, _, _, _, _, _, _, _, _, _, _, _, _, _, _, _, _ => none
 | n + 1, p0, p1, p2, p3, p4, p5, p6, p7, p8, p9, p10, p11, p12, p13, p14, p15, p16, p17 =>
 bif (!p6) then
 bif (decide ((0 : Int) < (p16.length : Int))) then
 (f_impl_keeper_begin p14 p5 p15 p6 p7 p8 p9 p16 p10 p17).bind fun y18 =>
 f_impl_HomeHear.l1 n p0 p1 p2 p3 p4 y18.2.1 y18.2.2.2.1 y18.2.2.2.2.1 y18.2.2.2.2.2.1 y18.2.2.2.2.2.2.1 y18.2.2.2.2.2.2.2.2.1 p11 p12 p13 y18.1 y18.2.2.1 y18.2.2.2.2.2.2.2.1 y18.2.2.2.2.2.2.2.2.2
 else
 some (p0, p1, p2, p3, p4, p5, p6, p7, p8, p9, p10, p11, p12, p13, p14, p15, p16, p17)
 else
 some (p0, p1, p2, p3, p4, p5, p6, p7, p8, p9, p10, p11, p12, p13, p14, p15, p16, p17)
noncomputable def f_impl_HomeHear.j0 (p0 : Int) (p1 : Bool) (p2 : List Int) (p3 : Int) (p4 : List Bool) (p5 : Bool) (p6 : Int) (p7 : Bool) (p8 : Int) (p9 : tyW) (p10 : Int) (p11 : Int) (p12 : Bool) (p13 : List Int) (p14 : Int) (p15 : Bool) (p16 : Int) (p17 : Bool) (p18 : Int) (p19 : Int) (p20 : Bool) (p21 : Int) (p22 : Bool) (p23 : Int) (p24 : Int) (p25 : List Int) (p26 : List Bool) (p27 : tyW) (p28 : List Int) (p29 : List Bool) (p30 : tyW) (p31 : tyT) : Option ((Int × Bool × Int × Bool × Int × Int × Bool × Int × Bool × Int × Int × List Int × List Bool × tyW × List Int × List Bool × tyW × tyT) ⊕ (Int × Bool × Int × Bool × Int × List Int × List Bool × tyW)) :=
 bif p1 then
 bif (Nat.blt (p30.length + ([(p0, (decide (p10 = (2 : Int))))] : tyW).length) 8796093022208) then
 (some ((p30 ++ ([(p0, (decide (p10 = (2 : Int))))] : tyW)) : tyW)).bind fun z32 =>
 some (.inl (p14, p15, p16, p17, p18, p19, p20, p21, p22, p23, p24, p25, p26, p27, p28, p29, z32, p31))
 else none
 else
 bif (decide (p10 = (5 : Int))) then
 bif p20 then
 bif (decide ((0 : Int) < p23)) then
 bif (decide ((IntKind.wrap .i64 (p23 - (1 : Int))) = (0 : Int))) then
 (f_impl_keeper_give p28 p19 p29 p20 p21 p22 (IntKind.wrap .i64 (p23 - (1 : Int))) p30 p24 p31).bind fun y33 =>
 some (.inl (p14, p15, p16, p17, p18, y33.2.1, y33.2.2.2.1, y33.2.2.2.2.1, y33.2.2.2.2.2.1, y33.2.2.2.2.2.2.1, y33.2.2.2.2.2.2.2.2.1, p25, p26, p27, y33.1, y33.2.2.1, y33.2.2.2.2.2.2.2.1, y33.2.2.2.2.2.2.2.2.2))
 else
 some (.inl (p14, p15, p16, p17, p18, p19, p20, p21, p22, (IntKind.wrap .i64 (p23 - (1 : Int))), p24, p25, p26, p27, p28, p29, p30, p31))
 else
 bif (decide (p10 = (7 : Int))) then
 bif p20 then
 bif (decide (p0 = p19)) then
 bif (decide (p23 = (0 : Int))) then
 (f_slices_Clone_int_int p13).bind fun y34 =>
 bif (!p22) then
 bif ((decide ((0 : Int) ≤ p19)) && (decide (p19 < (p29.length : Int)))) then
 (some ((p29.set p19.toNat true) : List Bool)).bind fun z35 =>
 (f_impl_keeper_give y34 (-1) z35 p20 p21 p22 p23 p30 p24 p31).bind fun y36 =>
 some (.inl (p14, p15, p16, p17, p18, y36.2.1, y36.2.2.2.1, y36.2.2.2.2.1, y36.2.2.2.2.2.1, y36.2.2.2.2.2.2.1, y36.2.2.2.2.2.2.2.2.1, p25, p26, p27, y36.1, y36.2.2.1, y36.2.2.2.2.2.2.2.1, y36.2.2.2.2.2.2.2.2.2))
 else none
 else
 (f_impl_keeper_give y34 (-1) p29 p20 p21 p22 p23 p30 p24 p31).bind fun y37 =>
 some (.inl (p14, p15, p16, p17, p18, y37.2.1, y37.2.2.2.1, y37.2.2.2.2.1, y37.2.2.2.2.2.1, y37.2.2.2.2.2.2.1, y37.2.2.2.2.2.2.2.2.1, p25, p26, p27, y37.1, y37.2.2.1, y37.2.2.2.2.2.2.2.1, y37.2.2.2.2.2.2.2.2.2))
 else
 (f_impl_copyHome p2 p3 p4 p5 p6 p7 p8 p9).bind fun y38 =>
 some (.inr (y38.2.1, y38.2.2.2.1, y38.2.2.2.2.1, y38.2.2.2.2.2.1, y38.2.2.2.2.2.2.1, y38.1, y38.2.2.1, y38.2.2.2.2.2.2.2))
 else
 (f_impl_copyHome p2 p3 p4 p5 p6 p7 p8 p9).bind fun y39 =>
 some (.inr (y39.2.1, y39.2.2.2.1, y39.2.2.2.2.1, y39.2.2.2.2.2.1, y39.2.2.2.2.2.2.1, y39.1, y39.2.2.1, y39.2.2.2.2.2.2.2))
 else
 (f_impl_copyHome p2 p3 p4 p5 p6 p7 p8 p9).bind fun y40 =>
 some (.inr (y40.2.1, y40.2.2.2.1, y40.2.2.2.2.1, y40.2.2.2.2.2.1, y40.2.2.2.2.2.2.1, y40.1, y40.2.2.1, y40.2.2.2.2.2.2.2))
 else
 (f_impl_copyHome p2 p3 p4 p5 p6 p7 p8 p9).bind fun y41 =>
 some (.inr (y41.2.1, y41.2.2.2.1, y41.2.2.2.2.1, y41.2.2.2.2.2.1, y41.2.2.2.2.2.2.1, y41.1, y41.2.2.1, y41.2.2.2.2.2.2.2))
 else
 bif (decide (p10 = (7 : Int))) then
 bif p20 then
 bif (decide (p0 = p19)) then
 bif (decide (p23 = (0 : Int))) then
 (f_slices_Clone_int_int p13).bind fun y42 =>
 bif (!p22) then
 bif ((decide ((0 : Int) ≤ p19)) && (decide (p19 < (p29.length : Int)))) then
 (some ((p29.set p19.toNat true) : List Bool)).bind fun z43 =>
 (f_impl_keeper_give y42 (-1) z43 p20 p21 p22 p23 p30 p24 p31).bind fun y44 =>
 some (.inl (p14, p15, p16, p17, p18, y44.2.1, y44.2.2.2.1, y44.2.2.2.2.1, y44.2.2.2.2.2.1, y44.2.2.2.2.2.2.1, y44.2.2.2.2.2.2.2.2.1, p25, p26, p27, y44.1, y44.2.2.1, y44.2.2.2.2.2.2.2.1, y44.2.2.2.2.2.2.2.2.2))
 else none
 else
 (f_impl_keeper_give y42 (-1) p29 p20 p21 p22 p23 p30 p24 p31).bind fun y45 =>
 some (.inl (p14, p15, p16, p17, p18, y45.2.1, y45.2.2.2.1, y45.2.2.2.2.1, y45.2.2.2.2.2.1, y45.2.2.2.2.2.2.1, y45.2.2.2.2.2.2.2.2.1, p25, p26, p27, y45.1, y45.2.2.1, y45.2.2.2.2.2.2.2.1, y45.2.2.2.2.2.2.2.2.2))
 else
 (f_impl_copyHome p2 p3 p4 p5 p6 p7 p8 p9).bind fun y46 =>
 some (.inr (y46.2.1, y46.2.2.2.1, y46.2.2.2.2.1, y46.2.2.2.2.2.1, y46.2.2.2.2.2.2.1, y46.1, y46.2.2.1, y46.2.2.2.2.2.2.2))
 else
 (f_impl_copyHome p2 p3 p4 p5 p6 p7 p8 p9).bind fun y47 =>
 some (.inr (y47.2.1, y47.2.2.2.1, y47.2.2.2.2.1, y47.2.2.2.2.2.1, y47.2.2.2.2.2.2.1, y47.1, y47.2.2.1, y47.2.2.2.2.2.2.2))
 else
 (f_impl_copyHome p2 p3 p4 p5 p6 p7 p8 p9).bind fun y48 =>
 some (.inr (y48.2.1, y48.2.2.2.1, y48.2.2.2.2.1, y48.2.2.2.2.2.1, y48.2.2.2.2.2.2.1, y48.1, y48.2.2.1, y48.2.2.2.2.2.2.2))
 else
 (f_impl_copyHome p2 p3 p4 p5 p6 p7 p8 p9).bind fun y49 =>
 some (.inr (y49.2.1, y49.2.2.2.1, y49.2.2.2.2.1, y49.2.2.2.2.2.1, y49.2.2.2.2.2.2.1, y49.1, y49.2.2.1, y49.2.2.2.2.2.2.2))
 else
 bif (decide (p10 = (7 : Int))) then
 bif p20 then
 bif (decide (p0 = p19)) then
 bif (decide (p23 = (0 : Int))) then
 (f_slices_Clone_int_int p13).bind fun y50 =>
 bif (!p22) then
 bif ((decide ((0 : Int) ≤ p19)) && (decide (p19 < (p29.length : Int)))) then
 (some ((p29.set p19.toNat true) : List Bool)).bind fun z51 =>
 (f_impl_keeper_give y50 (-1) z51 p20 p21 p22 p23 p30 p24 p31).bind fun y52 =>
 some (.inl (p14, p15, p16, p17, p18, y52.2.1, y52.2.2.2.1, y52.2.2.2.2.1, y52.2.2.2.2.2.1, y52.2.2.2.2.2.2.1, y52.2.2.2.2.2.2.2.2.1, p25, p26, p27, y52.1, y52.2.2.1, y52.2.2.2.2.2.2.2.1, y52.2.2.2.2.2.2.2.2.2))
 else none
 else
 (f_impl_keeper_give y50 (-1) p29 p20 p21 p22 p23 p30 p24 p31).bind fun y53 =>
 some (.inl (p14, p15, p16, p17, p18, y53.2.1, y53.2.2.2.1, y53.2.2.2.2.1, y53.2.2.2.2.2.1, y53.2.2.2.2.2.2.1, y53.2.2.2.2.2.2.2.2.1, p25, p26, p27, y53.1, y53.2.2.1, y53.2.2.2.2.2.2.2.1, y53.2.2.2.2.2.2.2.2.2))
 else
 (f_impl_copyHome p2 p3 p4 p5 p6 p7 p8 p9).bind fun y54 =>
 some (.inr (y54.2.1, y54.2.2.2.1, y54.2.2.2.2.1, y54.2.2.2.2.2.1, y54.2.2.2.2.2.2.1, y54.1, y54.2.2.1, y54.2.2.2.2.2.2.2))
 else
 (f_impl_copyHome p2 p3 p4 p5 p6 p7 p8 p9).bind fun y55 =>
 some (.inr (y55.2.1, y55.2.2.2.1, y55.2.2.2.2.1, y55.2.2.2.2.2.1, y55.2.2.2.2.2.2.1, y55.1, y55.2.2.1, y55.2.2.2.2.2.2.2))
 else
 (f_impl_copyHome p2 p3 p4 p5 p6 p7 p8 p9).bind fun y56 =>
 some (.inr (y56.2.1, y56.2.2.2.1, y56.2.2.2.2.1, y56.2.2.2.2.2.1, y56.2.2.2.2.2.2.1, y56.1, y56.2.2.1, y56.2.2.2.2.2.2.2))
 else
 (f_impl_copyHome p2 p3 p4 p5 p6 p7 p8 p9).bind fun y57 =>
 some (.inr (y57.2.1, y57.2.2.2.1, y57.2.2.2.2.1, y57.2.2.2.2.2.1, y57.2.2.2.2.2.2.1, y57.1, y57.2.2.1, y57.2.2.2.2.2.2.2))
noncomputable def f_impl_HomeHear (x0 : List Int) (x1 : Int) (x2 : List Bool) (x3 : Bool) (x4 : Int) (x5 : Bool) (x6 : Int) (x7 : tyW) (x8 : Int) (x9 : Int) (x10 : Int) (x11 : Int) (x12 : Int) (x13 : Bool) (x14 : List Int) : Option (List Int × Int × List Bool × Bool × Int × Bool × Int × tyW × tyT) :=
 (f_impl_HomeOk x0 x1 x2 x3 x4 x5 x6 x7 x8).bind fun y0 =>
 bif (!y0) then
 (f_impl_copyHome x0 x1 x2 x3 x4 x5 x6 x7).bind fun y1 =>
 some (y1.1, y1.2.1, y1.2.2.1, y1.2.2.2.1, y1.2.2.2.2.1, y1.2.2.2.2.2.1, y1.2.2.2.2.2.2.1, y1.2.2.2.2.2.2.2, [])
 else
 (f_impl_MsgOk x11 x12 x13 x14).bind fun y2 =>
 bif (!y2) then
 (f_impl_copyHome x0 x1 x2 x3 x4 x5 x6 x7).bind fun y3 =>
 some (y3.1, y3.2.1, y3.2.2.1, y3.2.2.2.1, y3.2.2.2.2.1, y3.2.2.2.2.2.1, y3.2.2.2.2.2.2.1, y3.2.2.2.2.2.2.2, [])
 else
 (f_impl_isOf x10 x8).bind fun y4 =>
 bif (!y4) then
 (f_impl_copyHome x0 x1 x2 x3 x4 x5 x6 x7).bind fun y5 =>
 some (y5.1, y5.2.1, y5.2.2.1, y5.2.2.2.1, y5.2.2.2.2.1, y5.2.2.2.2.2.1, y5.2.2.2.2.2.2.1, y5.2.2.2.2.2.2.2, [])
 else
 bif (!(decide (x9 = x12))) then
 (f_impl_copyHome x0 x1 x2 x3 x4 x5 x6 x7).bind fun y6 =>
 some (y6.1, y6.2.1, y6.2.2.1, y6.2.2.2.1, y6.2.2.2.2.1, y6.2.2.2.2.2.1, y6.2.2.2.2.2.2.1, y6.2.2.2.2.2.2.2, [])
 else
 (f_impl_copyHome x0 x1 x2 x3 x4 x5 x6 x7).bind fun y7 =>
 bif (decide (x11 = (1 : Int))) then
 (f_impl_HomeHear.j0 x10 (decide ((y7.2.2.2.2.2.2.2.length : Int) < (12 : Int))) x0 x1 x2 x3 x4 x5 x6 x7 x11 x12 x13 x14 0 false 0 false 0 y7.2.1 y7.2.2.2.1 y7.2.2.2.2.1 y7.2.2.2.2.2.1 y7.2.2.2.2.2.2.1 x9 ([] : List Int) ([] : List Bool) ([] : tyW) y7.1 y7.2.2.1 y7.2.2.2.2.2.2.2 ([] : tyT)).bind fun r8 =>
 cs r8 (fun a9 =>
 (f_impl_HomeHear.l1 N a9.1 a9.2.1 a9.2.2.1 a9.2.2.2.1 a9.2.2.2.2.1 a9.2.2.2.2.2.1 a9.2.2.2.2.2.2.1 a9.2.2.2.2.2.2.2.1 a9.2.2.2.2.2.2.2.2.1 a9.2.2.2.2.2.2.2.2.2.1 a9.2.2.2.2.2.2.2.2.2.2.1 a9.2.2.2.2.2.2.2.2.2.2.2.1 a9.2.2.2.2.2.2.2.2.2.2.2.2.1 a9.2.2.2.2.2.2.2.2.2.2.2.2.2.1 a9.2.2.2.2.2.2.2.2.2.2.2.2.2.2.1 a9.2.2.2.2.2.2.2.2.2.2.2.2.2.2.2.1 a9.2.2.2.2.2.2.2.2.2.2.2.2.2.2.2.2.1 a9.2.2.2.2.2.2.2.2.2.2.2.2.2.2.2.2.2).bind fun r10 =>
 some (r10.2.2.2.2.2.2.2.2.2.2.2.2.2.2.1, r10.2.2.2.2.2.1, r10.2.2.2.2.2.2.2.2.2.2.2.2.2.2.2.1, r10.2.2.2.2.2.2.1, r10.2.2.2.2.2.2.2.1, r10.2.2.2.2.2.2.2.2.1, r10.2.2.2.2.2.2.2.2.2.1, r10.2.2.2.2.2.2.2.2.2.2.2.2.2.2.2.2.1, r10.2.2.2.2.2.2.2.2.2.2.2.2.2.2.2.2.2)) (fun b11 =>
 some (b11.2.2.2.2.2.1, b11.1, b11.2.2.2.2.2.2.1, b11.2.1, b11.2.2.1, b11.2.2.2.1, b11.2.2.2.2.1, b11.2.2.2.2.2.2.2, []))
 else
 bif (decide (x11 = (2 : Int))) then
 (f_impl_HomeHear.j0 x10 (decide ((y7.2.2.2.2.2.2.2.length : Int) < (12 : Int))) x0 x1 x2 x3 x4 x5 x6 x7 x11 x12 x13 x14 0 false 0 false 0 y7.2.1 y7.2.2.2.1 y7.2.2.2.2.1 y7.2.2.2.2.2.1 y7.2.2.2.2.2.2.1 x9 ([] : List Int) ([] : List Bool) ([] : tyW) y7.1 y7.2.2.1 y7.2.2.2.2.2.2.2 ([] : tyT)).bind fun r12 =>
 cs r12 (fun a13 =>
 (f_impl_HomeHear.l1 N a13.1 a13.2.1 a13.2.2.1 a13.2.2.2.1 a13.2.2.2.2.1 a13.2.2.2.2.2.1 a13.2.2.2.2.2.2.1 a13.2.2.2.2.2.2.2.1 a13.2.2.2.2.2.2.2.2.1 a13.2.2.2.2.2.2.2.2.2.1 a13.2.2.2.2.2.2.2.2.2.2.1 a13.2.2.2.2.2.2.2.2.2.2.2.1 a13.2.2.2.2.2.2.2.2.2.2.2.2.1 a13.2.2.2.2.2.2.2.2.2.2.2.2.2.1 a13.2.2.2.2.2.2.2.2.2.2.2.2.2.2.1 a13.2.2.2.2.2.2.2.2.2.2.2.2.2.2.2.1 a13.2.2.2.2.2.2.2.2.2.2.2.2.2.2.2.2.1 a13.2.2.2.2.2.2.2.2.2.2.2.2.2.2.2.2.2).bind fun r14 =>
 some (r14.2.2.2.2.2.2.2.2.2.2.2.2.2.2.1, r14.2.2.2.2.2.1, r14.2.2.2.2.2.2.2.2.2.2.2.2.2.2.2.1, r14.2.2.2.2.2.2.1, r14.2.2.2.2.2.2.2.1, r14.2.2.2.2.2.2.2.2.1, r14.2.2.2.2.2.2.2.2.2.1, r14.2.2.2.2.2.2.2.2.2.2.2.2.2.2.2.2.1, r14.2.2.2.2.2.2.2.2.2.2.2.2.2.2.2.2.2)) (fun b15 =>
 some (b15.2.2.2.2.2.1, b15.1, b15.2.2.2.2.2.2.1, b15.2.1, b15.2.2.1, b15.2.2.2.1, b15.2.2.2.2.1, b15.2.2.2.2.2.2.2, []))
 else
 (f_impl_HomeHear.j0 x10 false x0 x1 x2 x3 x4 x5 x6 x7 x11 x12 x13 x14 0 false 0 false 0 y7.2.1 y7.2.2.2.1 y7.2.2.2.2.1 y7.2.2.2.2.2.1 y7.2.2.2.2.2.2.1 x9 ([] : List Int) ([] : List Bool) ([] : tyW) y7.1 y7.2.2.1 y7.2.2.2.2.2.2.2 ([] : tyT)).bind fun r16 =>
 cs r16 (fun a17 =>
 (f_impl_HomeHear.l1 N a17.1 a17.2.1 a17.2.2.1 a17.2.2.2.1 a17.2.2.2.2.1 a17.2.2.2.2.2.1 a17.2.2.2.2.2.2.1 a17.2.2.2.2.2.2.2.1 a17.2.2.2.2.2.2.2.2.1 a17.2.2.2.2.2.2.2.2.2.1 a17.2.2.2.2.2.2.2.2.2.2.1 a17.2.2.2.2.2.2.2.2.2.2.2.1 a17.2.2.2.2.2.2.2.2.2.2.2.2.1 a17.2.2.2.2.2.2.2.2.2.2.2.2.2.1 a17.2.2.2.2.2.2.2.2.2.2.2.2.2.2.1 a17.2.2.2.2.2.2.2.2.2.2.2.2.2.2.2.1 a17.2.2.2.2.2.2.2.2.2.2.2.2.2.2.2.2.1 a17.2.2.2.2.2.2.2.2.2.2.2.2.2.2.2.2.2).bind fun r18 =>
 some (r18.2.2.2.2.2.2.2.2.2.2.2.2.2.2.1, r18.2.2.2.2.2.1, r18.2.2.2.2.2.2.2.2.2.2.2.2.2.2.2.1, r18.2.2.2.2.2.2.1, r18.2.2.2.2.2.2.2.1, r18.2.2.2.2.2.2.2.2.1, r18.2.2.2.2.2.2.2.2.2.1, r18.2.2.2.2.2.2.2.2.2.2.2.2.2.2.2.2.1, r18.2.2.2.2.2.2.2.2.2.2.2.2.2.2.2.2.2)) (fun b19 =>
 some (b19.2.2.2.2.2.1, b19.1, b19.2.2.2.2.2.2.1, b19.2.1, b19.2.2.1, b19.2.2.2.1, b19.2.2.2.2.1, b19.2.2.2.2.2.2.2, []))
noncomputable def C228 : Con := ⟨[(.B, true, [(.sl R1), iI, (.sl R2), .bool, iI, .bool, iI, (.sl R3)]), (.B, false, [iI]), (.B, false, [iI]), (.B, false, [iI]), (.B, true, [iI, iI, .bool, (.sl R1)])], [(true, [(.sl R1), iI, (.sl R2), .bool, iI, .bool, iI, (.sl R3)]), (false, [(.sl R10)])], [(.sl R1), iI, (.sl R2), .bool, iI, .bool, iI, (.sl R3), iI, iI, iI, iI, iI, .bool, (.sl R1)], [(.sl R1), iI, (.sl R2), .bool, iI, .bool, iI, (.sl R3), (.sl R10)], ap15 f_impl_HomeHear⟩
noncomputable abbrev f_impl_HomeHear.j0.u := fun (p : Int × Bool × List Int × Int × List Bool × Bool × Int × Bool × Int × tyW × Int × Int × Bool × List Int × Int × Bool × Int × Bool × Int × Int × Bool × Int × Bool × Int × Int × List Int × List Bool × tyW × List Int × List Bool × tyW × tyT) => f_impl_HomeHear.j0 p.1 p.2.1 p.2.2.1 p.2.2.2.1 p.2.2.2.2.1 p.2.2.2.2.2.1 p.2.2.2.2.2.2.1 p.2.2.2.2.2.2.2.1 p.2.2.2.2.2.2.2.2.1 p.2.2.2.2.2.2.2.2.2.1 p.2.2.2.2.2.2.2.2.2.2.1 p.2.2.2.2.2.2.2.2.2.2.2.1 p.2.2.2.2.2.2.2.2.2.2.2.2.1 p.2.2.2.2.2.2.2.2.2.2.2.2.2.1 p.2.2.2.2.2.2.2.2.2.2.2.2.2.2.1 p.2.2.2.2.2.2.2.2.2.2.2.2.2.2.2.1 p.2.2.2.2.2.2.2.2.2.2.2.2.2.2.2.2.1 p.2.2.2.2.2.2.2.2.2.2.2.2.2.2.2.2.2.1 p.2.2.2.2.2.2.2.2.2.2.2.2.2.2.2.2.2.2.1 p.2.2.2.2.2.2.2.2.2.2.2.2.2.2.2.2.2.2.2.1 p.2.2.2.2.2.2.2.2.2.2.2.2.2.2.2.2.2.2.2.2.1 p.2.2.2.2.2.2.2.2.2.2.2.2.2.2.2.2.2.2.2.2.2.1 p.2.2.2.2.2.2.2.2.2.2.2.2.2.2.2.2.2.2.2.2.2.2.1 p.2.2.2.2.2.2.2.2.2.2.2.2.2.2.2.2.2.2.2.2.2.2.2.1 p.2.2.2.2.2.2.2.2.2.2.2.2.2.2.2.2.2.2.2.2.2.2.2.2.1 p.2.2.2.2.2.2.2.2.2.2.2.2.2.2.2.2.2.2.2.2.2.2.2.2.2.1 p.2.2.2.2.2.2.2.2.2.2.2.2.2.2.2.2.2.2.2.2.2.2.2.2.2.2.1 p.2.2.2.2.2.2.2.2.2.2.2.2.2.2.2.2.2.2.2.2.2.2.2.2.2.2.2.1 p.2.2.2.2.2.2.2.2.2.2.2.2.2.2.2.2.2.2.2.2.2.2.2.2.2.2.2.2.1 p.2.2.2.2.2.2.2.2.2.2.2.2.2.2.2.2.2.2.2.2.2.2.2.2.2.2.2.2.2.1 p.2.2.2.2.2.2.2.2.2.2.2.2.2.2.2.2.2.2.2.2.2.2.2.2.2.2.2.2.2.2.1 p.2.2.2.2.2.2.2.2.2.2.2.2.2.2.2.2.2.2.2.2.2.2.2.2.2.2.2.2.2.2.2
noncomputable def f_impl_HomeHear.j0.c : LoopCon := ⟨1000, 6, [3, 5, 9, 10, 11, 12, 43], ⟨[(3, i0), (5, .ptr 1000 0), (9, .ptr 1001 0), (10, .ptr 1002 0), (11, .nil (some R10)), (12, .ptr 1003 0), (43, .bool false)], [(1000, .box [bN R1, i0, bN R2, .bool false, i0, .bool false, i0, bN R3]), (1001, .box [i0, i0, .bool false, bN R1]), (1002, .box [.ref 1004 [] none, i0, .ref 1005 [] none, .bool false, i0, .bool false, i0, .ref 1006 [] none]), (1003, .box [.ref 1007 [] none, i0, .ref 1008 [] none, .bool false, i0, .bool false, i0, .ref 1009 [] none, i0, .ref 1010 [] none]), (1004, .row R1 []), (1005, .row R2 []), (1006, .row R3 []), (1007, .row R1 []), (1008, .row R2 []), (1009, .row R3 []), (1010, .row R10 [])], 1011⟩, [iI, .bool, (.sl R1), iI, (.sl R2), .bool, iI, .bool, iI, (.sl R3), iI, iI, .bool, (.sl R1), iI, .bool, iI, .bool, iI, iI, .bool, iI, .bool, iI, iI, (.sl R1), (.sl R2), (.sl R3), (.sl R1), (.sl R2), (.sl R3), (.sl R10)], [⟨.normal, [10, 11, 12], ⟨[(10, .ptr 1000 0), (11, .nil (some R10)), (12, .ptr 1001 0)], [(1000, .box [.ref 1002 [] none, i0, .ref 1003 [] none, .bool false, i0, .bool false, i0, .ref 1004 [] none]), (1001, .box [.ref 1005 [] none, i0, .ref 1006 [] none, .bool false, i0, .bool false, i0, .ref 1007 [] none, i0, .ref 1008 [] none]), (1002, .row R1 []), (1003, .row R2 []), (1004, .row R3 []), (1005, .row R1 []), (1006, .row R2 []), (1007, .row R3 []), (1008, .row R10 [])], 1009⟩, [iI, .bool, iI, .bool, iI, iI, .bool, iI, .bool, iI, iI, (.sl R1), (.sl R2), (.sl R3), (.sl R1), (.sl R2), (.sl R3), (.sl R10)]⟩, ⟨.ret, [10, 11], ⟨[(10, .ptr 1000 0), (11, .nil (some R10))], [(1000, .box [.ref 1001 [] none, i0, .ref 1002 [] none, .bool false, i0, .bool false, i0, .ref 1003 [] none]), (1001, .row R1 []), (1002, .row R2 []), (1003, .row R3 [])], 1004⟩, [iI, .bool, iI, .bool, iI, (.sl R1), (.sl R2), (.sl R3)]⟩], f_impl_HomeHear.j0.u⟩
noncomputable abbrev f_impl_HomeHear.l1.u (n : Nat) := ap18 (f_impl_HomeHear.l1 n)
noncomputable def f_impl_HomeHear.l1.c : LoopCon := ⟨1000, 6, [10, 11, 12], ⟨[(10, .ptr 1000 0), (11, .nil (some R10)), (12, .ptr 1001 0)], [(1000, .box [.ref 1002 [] none, i0, .ref 1003 [] none, .bool false, i0, .bool false, i0, .ref 1004 [] none]), (1001, .box [.ref 1005 [] none, i0, .ref 1006 [] none, .bool false, i0, .bool false, i0, .ref 1007 [] none, i0, .ref 1008 [] none]), (1002, .row R1 []), (1003, .row R2 []), (1004, .row R3 []), (1005, .row R1 []), (1006, .row R2 []), (1007, .row R3 []), (1008, .row R10 [])], 1009⟩, [iI, .bool, iI, .bool, iI, iI, .bool, iI, .bool, iI, iI, (.sl R1), (.sl R2), (.sl R3), (.sl R1), (.sl R2), (.sl R3), (.sl R10)], [⟨.exit 1, [10, 11, 12], ⟨[(10, .ptr 1000 0), (11, .nil (some R10)), (12, .ptr 1001 0)], [(1000, .box [.ref 1002 [] none, i0, .ref 1003 [] none, .bool false, i0, .bool false, i0, .ref 1004 [] none]), (1001, .box [.ref 1005 [] none, i0, .ref 1006 [] none, .bool false, i0, .bool false, i0, .ref 1007 [] none, i0, .ref 1008 [] none]), (1002, .row R1 []), (1003, .row R2 []), (1004, .row R3 []), (1005, .row R1 []), (1006, .row R2 []), (1007, .row R3 []), (1008, .row R10 [])], 1009⟩, [iI, .bool, iI, .bool, iI, iI, .bool, iI, .bool, iI, iI, (.sl R1), (.sl R2), (.sl R3), (.sl R1), (.sl R2), (.sl R3), (.sl R10)]⟩], f_impl_HomeHear.l1.u N⟩
noncomputable abbrev K228 : Cons := [(89, C89), (95, C95), (103, C103), (111, C111), (130, C130), (233, C233), (234, C234)]
noncomputable abbrev L228 : List (Nat × Loops) := [(228, [(1000006, f_impl_HomeHear.j0.c), (17, f_impl_HomeHear.l1.c)])]
noncomputable abbrev X228 : Nat → Ctx := ctxOf tb K228 L228 Qe
theorem f_impl_HomeHear.j0.ok : ∀ p, f_impl_HomeHear.j0.u p = iterD (roundOf fs X228 6 228 1000006 false f_impl_HomeHear.j0.c) 1 p := fun p => by kernel_rfl
theorem f_impl_HomeHear.l1.ok : ∀ n p, f_impl_HomeHear.l1.u n p = iterD (roundOf fs X228 6 228 17 false f_impl_HomeHear.l1.c) n p :=
 iter_of (l := f_impl_HomeHear.l1.u) (fun _ => rfl) (fun n p => by kernel_rfl)
theorem E228 : ∀ x, funRun fs X228 6 228 C228 x = C228.fn x := fun x => by kernel_rfl
theorem B228 : ConB Tryz.prog 228 C228 := ConB.make FS MIX TY (cons := K228) (L := L228) (ptrs := Qe) ⟨S89, S95, S103, S111, S130, S233, S234, trivial⟩ trivial ⟨⟨⟨1, fun p => f_impl_HomeHear.j0.ok p⟩, ⟨N, fun p => f_impl_HomeHear.l1.ok N p⟩, trivial⟩, trivial⟩ rfl rfl E228
theorem S228 : ConS Tryz.prog 228 C228 := B228.call rfl
noncomputable def f_impl_Queue (x0 : Int) (x1 : tyM) (x2 : Int) (x3 : Int) (x4 : Bool) (x5 : List Int) : Option (Int × tyM × Bool) :=
 (f_impl_copySender x0 x1).bind fun y0 =>
 (f_impl_SenderOk y0.1 y0.2).bind fun y1 =>
 bif (!y1) then
 some (y0.1, y0.2, false)
 else
 (f_impl_MsgOk x2 x3 x4 x5).bind fun y2 =>
 bif (!y2) then
 some (y0.1, y0.2, false)
 else
 bif (decide ((y0.2.length : Int) = (30 : Int))) then
 some (y0.1, y0.2, false)
 else
 bif (decide ((IntKind.wrap .i64 (y0.1 + (y0.2.length : Int))) = (100000 : Int))) then
 some (y0.1, y0.2, false)
 else
 (f_impl_copyMsg x2 x3 x4 x5).bind fun y3 =>
 bif (Nat.blt (y0.2.length + ([(y3.1, y3.2.1, y3.2.2.1, y3.2.2.2)] : tyM).length) 2932031007402) then
 (some ((y0.2 ++ ([(y3.1, y3.2.1, y3.2.2.1, y3.2.2.2)] : tyM)) : tyM)).bind fun z4 =>
 some (y0.1, z4, true)
 else none
noncomputable def C186 : Con := ⟨[(.B, true, [iI, (.sl R6)]), (.B, true, [iI, iI, .bool, (.sl R1)])], [(true, [iI, (.sl R6)]), (false, [.bool])], [iI, (.sl R6), iI, iI, .bool, (.sl R1)], [iI, (.sl R6), .bool], ap6 f_impl_Queue⟩
noncomputable abbrev K186 : Cons := [(98, C98), (103, C103), (131, C131), (132, C132)]
noncomputable abbrev X186 : Nat → Ctx := ctxOf tb K186 Le Qe
theorem E186 : ∀ x, funRun fs X186 6 186 C186 x = C186.fn x := fun x => by kernel_rfl
theorem B186 : ConB Tryz.prog 186 C186 := ConB.make FS MIX TY (cons := K186) (L := Le) (ptrs := Qe) ⟨S98, S103, S131, S132, trivial⟩ trivial trivial rfl rfl E186
theorem S186 : ConS Tryz.prog 186 C186 := B186.call rfl
noncomputable def f_impl_Node_toHome.l0 : Nat → Bool → Int → Int → Int → tyT → tyF → tyH → tyS → (List Int) → Option ((Bool × Int × tyF × tyH × tyS × List Int) ⊕ (Bool × Int × tyF × tyH × tyS × List Int))
 | 0, _, _, _, _, _, _, _, _, _ => none
 | n + 1, p0, p1, p2, p3, p4, p5, p6, p7, p8 =>
 bif (decide (p2 < p1)) then
 bif ((decide ((0 : Int) ≤ p2)) && (decide (p2 < (p4.length : Int)))) then
 bif ((decide ((0 : Int) ≤ ((p4.getD p2.toNat (0, 0, 0, false, [])).1))) && (decide (((p4.getD p2.toNat (0, 0, 0, false, [])).1) < (p7.length : Int)))) then
 (f_impl_Queue ((p7.getD ((p4.getD p2.toNat (0, 0, 0, false, [])).1).toNat (0, [])).1) ((p7.getD ((p4.getD p2.toNat (0, 0, 0, false, [])).1).toNat (0, [])).2) ((p4.getD p2.toNat (0, 0, 0, false, [])).2.1) ((p4.getD p2.toNat (0, 0, 0, false, [])).2.2.1) ((p4.getD p2.toNat (0, 0, 0, false, [])).2.2.2.1) ((p4.getD p2.toNat (0, 0, 0, false, [])).2.2.2.2)).bind fun y9 =>
 bif (!y9.2.2) then
 some (.inl (false, p3, p5, p6, p7, p8))
 else
 bif ((decide ((0 : Int) ≤ ((p4.getD p2.toNat (0, 0, 0, false, [])).1))) && (decide (((p4.getD p2.toNat (0, 0, 0, false, [])).1) < (p7.length : Int)))) then
 (some ((p7.set ((p4.getD p2.toNat (0, 0, 0, false, [])).1).toNat (y9.1, y9.2.1)) : tyS)).bind fun z10 =>
 f_impl_Node_toHome.l0 n p0 p1 (IntKind.wrap .i64 (p2 + (1 : Int))) p3 p4 p5 p6 z10 p8
 else none
 else none
 else none
 else
 some (.inr (p0, p3, p5, p6, p7, p8))
noncomputable def f_impl_Node_toHome (x0 : Int) (x1 : tyF) (x2 : tyH) (x3 : tyS) (x4 : List Int) (x5 : Int) (x6 : Int) (x7 : Int) (x8 : Int) (x9 : Bool) (x10 : List Int) : Option (Bool × Int × tyF × tyH × tyS × List Int) :=
 bif ((decide ((0 : Int) ≤ x8)) && (decide (x8 < (x2.length : Int)))) then
 (f_impl_HomeHear ((x2.getD x8.toNat ([], 0, [], false, 0, false, 0, [])).1) ((x2.getD x8.toNat ([], 0, [], false, 0, false, 0, [])).2.1) ((x2.getD x8.toNat ([], 0, [], false, 0, false, 0, [])).2.2.1) ((x2.getD x8.toNat ([], 0, [], false, 0, false, 0, [])).2.2.2.1) ((x2.getD x8.toNat ([], 0, [], false, 0, false, 0, [])).2.2.2.2.1) ((x2.getD x8.toNat ([], 0, [], false, 0, false, 0, [])).2.2.2.2.2.1) ((x2.getD x8.toNat ([], 0, [], false, 0, false, 0, [])).2.2.2.2.2.2.1) ((x2.getD x8.toNat ([], 0, [], false, 0, false, 0, [])).2.2.2.2.2.2.2) x5 x8 x6 x7 x8 x9 x10).bind fun y0 =>
 bif ((decide ((0 : Int) ≤ x8)) && (decide (x8 < (x2.length : Int)))) then
 (some ((x2.set x8.toNat (y0.1, y0.2.1, y0.2.2.1, y0.2.2.2.1, y0.2.2.2.2.1, y0.2.2.2.2.2.1, y0.2.2.2.2.2.2.1, y0.2.2.2.2.2.2.2.1)) : tyH)).bind fun z1 =>
 (f_impl_Node_toHome.l0 N false (y0.2.2.2.2.2.2.2.2.length : Int) 0 x0 y0.2.2.2.2.2.2.2.2 x1 z1 x3 x4).bind fun r2 =>
 cs r2 (fun a3 =>
 some (a3.1, a3.2.1, a3.2.2.1, a3.2.2.2.1, a3.2.2.2.2.1, a3.2.2.2.2.2)) (fun b4 =>
 some (true, b4.2.1, b4.2.2.1, b4.2.2.2.1, b4.2.2.2.2.1, b4.2.2.2.2.2))
 else none
 else none
noncomputable def C210 : Con := ⟨[(.P [true, true, true, true, true], false, [iI, (.sl R4), (.sl R5), (.sl R7), (.sl R1)]), (.B, false, [iI]), (.B, false, [iI]), (.B, true, [iI, iI, .bool, (.sl R1)])], [(false, [.bool])], [iI, (.sl R4), (.sl R5), (.sl R7), (.sl R1), iI, iI, iI, iI, .bool, (.sl R1)], [.bool, iI, (.sl R4), (.sl R5), (.sl R7), (.sl R1)], ap11 f_impl_Node_toHome⟩
noncomputable abbrev f_impl_Node_toHome.l0.u (n : Nat) := ap9 (f_impl_Node_toHome.l0 n)
noncomputable def f_impl_Node_toHome.l0.c : LoopCon := ⟨1000, 6, [0, 8, 40, 41, 42], ⟨[(0, .ptr 500 0), (8, .bool false), (40, .ref 1000 [] none), (41, i0), (42, i0)], [(500, .box [i0, .ref 1001 [] none, .ref 1002 [] none, .ref 1003 [] none, .ref 1004 [] none]), (1000, .row R10 []), (1001, .row R4 []), (1002, .row R5 []), (1003, .row R7 []), (1004, .row R1 [])], 1005⟩, [.bool, iI, iI, iI, (.sl R10), (.sl R4), (.sl R5), (.sl R7), (.sl R1)], [⟨.ret, [8], ⟨[(8, .bool false)], [(500, .box [i0, .ref 1000 [] none, .ref 1001 [] none, .ref 1002 [] none, .ref 1003 [] none]), (1000, .row R4 []), (1001, .row R5 []), (1002, .row R7 []), (1003, .row R1 [])], 1004⟩, [.bool, iI, (.sl R4), (.sl R5), (.sl R7), (.sl R1)]⟩, ⟨.exit 0, [8], ⟨[(8, .bool false)], [(500, .box [i0, .ref 1000 [] none, .ref 1001 [] none, .ref 1002 [] none, .ref 1003 [] none]), (1000, .row R4 []), (1001, .row R5 []), (1002, .row R7 []), (1003, .row R1 [])], 1004⟩, [.bool, iI, (.sl R4), (.sl R5), (.sl R7), (.sl R1)]⟩], f_impl_Node_toHome.l0.u N⟩
noncomputable abbrev K210 : Cons := [(186, C186), (228, C228)]
noncomputable abbrev L210 : List (Nat × Loops) := [(210, [(4, f_impl_Node_toHome.l0.c)])]
noncomputable abbrev X210 : Nat → Ctx := ctxOf tb K210 L210 Qe
theorem f_impl_Node_toHome.l0.ok : ∀ n p, f_impl_Node_toHome.l0.u n p = iterD (roundOf fs X210 6 210 4 false f_impl_Node_toHome.l0.c) n p :=
 iter_of (l := f_impl_Node_toHome.l0.u) (fun _ => rfl) (fun n p => by kernel_rfl)
theorem E210 : ∀ x, funG fs X210 6 210 C210 x = C210.fn x := fun x => by kernel_rfl
theorem B210 : ConG Tryz.prog 210 C210 := ConG.make FS MIX TY (cons := K210) (L := L210) (ptrs := Qe) ⟨S186, S228, trivial⟩ trivial ⟨⟨⟨N, fun p => f_impl_Node_toHome.l0.ok N p⟩, trivial⟩, trivial⟩ rfl (by kernel_rfl) E210
theorem S210 : ConS Tryz.prog 210 C210 := B210.call (by kernel_rfl)
noncomputable def f_impl_FrameHear (x0 : Int) (x1 : List Int) (x2 : Bool) (x3 : Int) (x4 : Int) (x5 : Bool) (x6 : List Int) : Option (Int × List Int × Bool × Int × Int × Bool × List Int × Bool) :=
 (f_impl_copyFrame x0 x1 x2).bind fun y0 =>
 (f_impl_FrameOk x0 x1 x2).bind fun y1 =>
 bif (!y1) then
 some (y0.1, y0.2.1, y0.2.2, 0, 0, false, [], false)
 else
 (f_impl_MsgOk x3 x4 x5 x6).bind fun y2 =>
 bif (!y2) then
 some (y0.1, y0.2.1, y0.2.2, 0, 0, false, [], false)
 else
 bif (decide (x3 = (3 : Int))) then
 (f_slices_Clone_int_int x6).bind fun y3 =>
 bif x5 then
 some (2, y3, false, 0, 0, false, [], false)
 else
 some (1, y3, false, 0, 0, false, [], false)
 else
 bif (decide (x3 = (4 : Int))) then
 some (0, [], x2, 5, x4, false, [], true)
 else
 bif (decide (x3 = (6 : Int))) then
 bif (decide (x0 = (2 : Int))) then
 (f_slices_Clone_int_int x1).bind fun y4 =>
 bif x5 then
 some (0, [], x2, 7, x4, false, y4, true)
 else
 some (1, y0.2.1, y0.2.2, 7, x4, false, y4, true)
 else
 some (y0.1, y0.2.1, y0.2.2, 0, 0, false, [], false)
 else
 some (y0.1, y0.2.1, y0.2.2, 0, 0, false, [], false)
noncomputable def C229 : Con := ⟨[(.B, true, [iI, (.sl R1), .bool]), (.B, true, [iI, iI, .bool, (.sl R1)])], [(true, [iI, (.sl R1), .bool]), (true, [iI, iI, .bool, (.sl R1)]), (false, [.bool])], [iI, (.sl R1), .bool, iI, iI, .bool, (.sl R1)], [iI, (.sl R1), .bool, iI, iI, .bool, (.sl R1), .bool], ap7 f_impl_FrameHear⟩
noncomputable abbrev K229 : Cons := [(92, C92), (103, C103), (111, C111), (129, C129)]
noncomputable abbrev X229 : Nat → Ctx := ctxOf tb K229 Le Qe
theorem E229 : ∀ x, funRun fs X229 6 229 C229 x = C229.fn x := fun x => by kernel_rfl
theorem B229 : ConB Tryz.prog 229 C229 := ConB.make FS MIX TY (cons := K229) (L := Le) (ptrs := Qe) ⟨S92, S103, S111, S129, trivial⟩ trivial trivial rfl rfl E229
theorem S229 : ConS Tryz.prog 229 C229 := B229.call rfl
noncomputable def f_impl_Node_toFrame (x0 : Int) (x1 : tyF) (x2 : tyH) (x3 : tyS) (x4 : List Int) (x5 : Int) (x6 : Int) (x7 : Int) (x8 : Bool) (x9 : List Int) : Option (Bool × Int × tyF × tyH × tyS × List Int) :=
 bif ((decide ((0 : Int) ≤ x7)) && (decide (x7 < (x1.length : Int)))) then
 (f_impl_FrameHear ((x1.getD x7.toNat (0, [], false)).1) ((x1.getD x7.toNat (0, [], false)).2.1) ((x1.getD x7.toNat (0, [], false)).2.2) x6 x7 x8 x9).bind fun y0 =>
 bif ((decide ((0 : Int) ≤ x7)) && (decide (x7 < (x1.length : Int)))) then
 (some ((x1.set x7.toNat (y0.1, y0.2.1, y0.2.2.1)) : tyF)).bind fun z1 =>
 bif (!y0.2.2.2.2.2.2.2) then
 some (true, x0, z1, x2, x3, x4)
 else
 bif ((decide ((0 : Int) ≤ x5)) && (decide (x5 < (x3.length : Int)))) then
 (f_impl_Queue ((x3.getD x5.toNat (0, [])).1) ((x3.getD x5.toNat (0, [])).2) y0.2.2.2.1 y0.2.2.2.2.1 y0.2.2.2.2.2.1 y0.2.2.2.2.2.2.1).bind fun y2 =>
 bif ((decide ((0 : Int) ≤ x5)) && (decide (x5 < (x3.length : Int)))) then
 (some ((x3.set x5.toNat (y2.1, y2.2.1)) : tyS)).bind fun z3 =>
 some (y2.2.2, x0, z1, x2, z3, x4)
 else none
 else none
 else none
 else none
noncomputable def C211 : Con := ⟨[(.P [true, true, true, true, true], false, [iI, (.sl R4), (.sl R5), (.sl R7), (.sl R1)]), (.B, false, [iI]), (.B, true, [iI, iI, .bool, (.sl R1)])], [(false, [.bool])], [iI, (.sl R4), (.sl R5), (.sl R7), (.sl R1), iI, iI, iI, .bool, (.sl R1)], [.bool, iI, (.sl R4), (.sl R5), (.sl R7), (.sl R1)], ap10 f_impl_Node_toFrame⟩
noncomputable abbrev K211 : Cons := [(186, C186), (229, C229)]
noncomputable abbrev X211 : Nat → Ctx := ctxOf tb K211 Le Qe
theorem E211 : ∀ x, funG fs X211 6 211 C211 x = C211.fn x := fun x => by kernel_rfl
theorem B211 : ConG Tryz.prog 211 C211 := ConG.make FS MIX TY (cons := K211) (L := Le) (ptrs := Qe) ⟨S186, S229, trivial⟩ trivial trivial rfl (by kernel_rfl) E211
theorem S211 : ConS Tryz.prog 211 C211 := B211.call (by kernel_rfl)
noncomputable def f_impl_NodeHear (x0 : Int) (x1 : tyF) (x2 : tyH) (x3 : tyS) (x4 : List Int) (x5 : Int) (x6 : Int) (x7 : Int) (x8 : Int) (x9 : Bool) (x10 : List Int) : Option (Int × tyF × tyH × tyS × List Int × Bool) :=
 (f_impl_NodeOk x0 x1 x2 x3 x4 x5).bind fun y0 =>
 bif (!y0) then
 (f_impl_copyNode x0 x1 x2 x3 x4).bind fun y1 =>
 some (y1.1, y1.2.1, y1.2.2.1, y1.2.2.2.1, y1.2.2.2.2, false)
 else
 (f_impl_MsgOk x7 x8 x9 x10).bind fun y2 =>
 bif (!y2) then
 (f_impl_copyNode x0 x1 x2 x3 x4).bind fun y3 =>
 some (y3.1, y3.2.1, y3.2.2.1, y3.2.2.2.1, y3.2.2.2.2, false)
 else
 (f_impl_isOf x6 x5).bind fun y4 =>
 bif (!y4) then
 (f_impl_copyNode x0 x1 x2 x3 x4).bind fun y5 =>
 some (y5.1, y5.2.1, y5.2.2.1, y5.2.2.2.1, y5.2.2.2.2, false)
 else
 (f_impl_copyNode x0 x1 x2 x3 x4).bind fun y6 =>
 bif (decide (x5 = (0 : Int))) then none else
 bif (decide (x7 = (1 : Int))) then
 bif (decide ((Int.tmod x8 x5) = x0)) then
 (f_impl_Node_toHome y6.1 y6.2.1 y6.2.2.1 y6.2.2.2.1 y6.2.2.2.2 x5 x6 x7 x8 x9 x10).bind fun y7 =>
 bif (!y7.1) then
 (f_impl_copyNode x0 x1 x2 x3 x4).bind fun y8 =>
 some (y8.1, y8.2.1, y8.2.2.1, y8.2.2.2.1, y8.2.2.2.2, false)
 else
 some (y7.2.1, y7.2.2.1, y7.2.2.2.1, y7.2.2.2.2.1, y7.2.2.2.2.2, true)
 else
 some (y6.1, y6.2.1, y6.2.2.1, y6.2.2.2.1, y6.2.2.2.2, true)
 else
 bif (decide (x7 = (2 : Int))) then
 bif (decide ((Int.tmod x8 x5) = x0)) then
 (f_impl_Node_toHome y6.1 y6.2.1 y6.2.2.1 y6.2.2.2.1 y6.2.2.2.2 x5 x6 x7 x8 x9 x10).bind fun y9 =>
 bif (!y9.1) then
 (f_impl_copyNode x0 x1 x2 x3 x4).bind fun y10 =>
 some (y10.1, y10.2.1, y10.2.2.1, y10.2.2.2.1, y10.2.2.2.2, false)
 else
 some (y9.2.1, y9.2.2.1, y9.2.2.2.1, y9.2.2.2.2.1, y9.2.2.2.2.2, true)
 else
 some (y6.1, y6.2.1, y6.2.2.1, y6.2.2.2.1, y6.2.2.2.2, true)
 else
 bif (decide (x7 = (5 : Int))) then
 bif (decide ((Int.tmod x8 x5) = x0)) then
 (f_impl_Node_toHome y6.1 y6.2.1 y6.2.2.1 y6.2.2.2.1 y6.2.2.2.2 x5 x6 x7 x8 x9 x10).bind fun y11 =>
 bif (!y11.1) then
 (f_impl_copyNode x0 x1 x2 x3 x4).bind fun y12 =>
 some (y12.1, y12.2.1, y12.2.2.1, y12.2.2.2.1, y12.2.2.2.2, false)
 else
 some (y11.2.1, y11.2.2.1, y11.2.2.2.1, y11.2.2.2.2.1, y11.2.2.2.2.2, true)
 else
 some (y6.1, y6.2.1, y6.2.2.1, y6.2.2.2.1, y6.2.2.2.2, true)
 else
 bif (decide (x7 = (7 : Int))) then
 bif (decide ((Int.tmod x8 x5) = x0)) then
 (f_impl_Node_toHome y6.1 y6.2.1 y6.2.2.1 y6.2.2.2.1 y6.2.2.2.2 x5 x6 x7 x8 x9 x10).bind fun y13 =>
 bif (!y13.1) then
 (f_impl_copyNode x0 x1 x2 x3 x4).bind fun y14 =>
 some (y14.1, y14.2.1, y14.2.2.1, y14.2.2.2.1, y14.2.2.2.2, false)
 else
 some (y13.2.1, y13.2.2.1, y13.2.2.2.1, y13.2.2.2.2.1, y13.2.2.2.2.2, true)
 else
 some (y6.1, y6.2.1, y6.2.2.1, y6.2.2.2.1, y6.2.2.2.2, true)
 else
 bif (decide ((Int.tmod x8 x5) = x6)) then
 (f_impl_Node_toFrame y6.1 y6.2.1 y6.2.2.1 y6.2.2.2.1 y6.2.2.2.2 x6 x7 x8 x9 x10).bind fun y15 =>
 bif (!y15.1) then
 (f_impl_copyNode x0 x1 x2 x3 x4).bind fun y16 =>
 some (y16.1, y16.2.1, y16.2.2.1, y16.2.2.2.1, y16.2.2.2.2, false)
 else
 some (y15.2.1, y15.2.2.1, y15.2.2.2.1, y15.2.2.2.2.1, y15.2.2.2.2.2, true)
 else
 some (y6.1, y6.2.1, y6.2.2.1, y6.2.2.2.1, y6.2.2.2.2, true)
noncomputable def C184 : Con := ⟨[(.B, true, [iI, (.sl R4), (.sl R5), (.sl R7), (.sl R1)]), (.B, false, [iI]), (.B, false, [iI]), (.B, true, [iI, iI, .bool, (.sl R1)])], [(true, [iI, (.sl R4), (.sl R5), (.sl R7), (.sl R1)]), (false, [.bool])], [iI, (.sl R4), (.sl R5), (.sl R7), (.sl R1), iI, iI, iI, iI, .bool, (.sl R1)], [iI, (.sl R4), (.sl R5), (.sl R7), (.sl R1), .bool], ap11 f_impl_NodeHear⟩
noncomputable abbrev K184 : Cons := [(50, C50), (73, C73), (89, C89), (103, C103), (210, C210), (211, C211)]
noncomputable abbrev X184 : Nat → Ctx := ctxOf tb K184 Le Qe
theorem E184 : ∀ x, funRun fs X184 6 184 C184 x = C184.fn x := fun x => by kernel_rfl
theorem B184 : ConB Tryz.prog 184 C184 := ConB.make FS MIX TY (cons := K184) (L := Le) (ptrs := Qe) ⟨S50, S73, S89, S103, S210, S211, trivial⟩ trivial trivial rfl rfl E184
theorem S184 : ConS Tryz.prog 184 C184 := B184.call rfl
noncomputable def f_impl_World_give (x0 : Int) (x1 : tyN) (x2 : tyP) (x3 : Int) : Option (Int × Int × Bool × Int × Int × Int × Bool × List Int × Bool × Int × tyN × tyP) :=
 bif ((decide ((0 : Int) ≤ x3)) && (decide (x3 < (x2.length : Int)))) then
 bif ((decide ((0 : Int) ≤ x3)) && ((decide (x3 ≤ (IntKind.wrap .i64 (x3 + (1 : Int))))) && (decide ((IntKind.wrap .i64 (x3 + (1 : Int))) ≤ (x2.length : Int))))) then
 (some ((x2.take x3.toNat ++ x2.drop (IntKind.wrap .i64 (x3 + (1 : Int))).toNat) : tyP)).bind fun z0 =>
 bif ((decide ((0 : Int) ≤ ((x2.getD x3.toNat (0, 0, false, 0, 0, 0, false, [])).2.1))) && (decide (((x2.getD x3.toNat (0, 0, false, 0, 0, 0, false, [])).2.1) < (x1.length : Int)))) then
 bif (x2.getD x3.toNat (0, 0, false, 0, 0, 0, false, [])).2.2.1 then
 bif ((decide ((0 : Int) ≤ ((x2.getD x3.toNat (0, 0, false, 0, 0, 0, false, [])).1))) && (decide (((x2.getD x3.toNat (0, 0, false, 0, 0, 0, false, [])).1) < (((x1.getD ((x2.getD x3.toNat (0, 0, false, 0, 0, 0, false, [])).2.1).toNat (0, [], [], [], [])).2.2.2.1).length : Int)))) then
 (f_impl_Acked ((((x1.getD ((x2.getD x3.toNat (0, 0, false, 0, 0, 0, false, [])).2.1).toNat (0, [], [], [], [])).2.2.2.1).getD ((x2.getD x3.toNat (0, 0, false, 0, 0, 0, false, [])).1).toNat (0, [])).1) ((((x1.getD ((x2.getD x3.toNat (0, 0, false, 0, 0, 0, false, [])).2.1).toNat (0, [], [], [], [])).2.2.2.1).getD ((x2.getD x3.toNat (0, 0, false, 0, 0, 0, false, [])).1).toNat (0, [])).2) ((x2.getD x3.toNat (0, 0, false, 0, 0, 0, false, [])).2.2.2.1)).bind fun y1 =>
 bif ((decide ((0 : Int) ≤ ((x2.getD x3.toNat (0, 0, false, 0, 0, 0, false, [])).1))) && (decide (((x2.getD x3.toNat (0, 0, false, 0, 0, 0, false, [])).1) < (((x1.getD ((x2.getD x3.toNat (0, 0, false, 0, 0, 0, false, [])).2.1).toNat (0, [], [], [], [])).2.2.2.1).length : Int)))) then
 (some ((x1.set ((x2.getD x3.toNat (0, 0, false, 0, 0, 0, false, [])).2.1).toNat ((x1.getD ((x2.getD x3.toNat (0, 0, false, 0, 0, 0, false, [])).2.1).toNat (0, [], [], [], [])).1, (x1.getD ((x2.getD x3.toNat (0, 0, false, 0, 0, 0, false, [])).2.1).toNat (0, [], [], [], [])).2.1, (x1.getD ((x2.getD x3.toNat (0, 0, false, 0, 0, 0, false, [])).2.1).toNat (0, [], [], [], [])).2.2.1, (((x1.getD ((x2.getD x3.toNat (0, 0, false, 0, 0, 0, false, [])).2.1).toNat (0, [], [], [], [])).2.2.2.1).set ((x2.getD x3.toNat (0, 0, false, 0, 0, 0, false, [])).1).toNat (y1.1, y1.2)), (x1.getD ((x2.getD x3.toNat (0, 0, false, 0, 0, 0, false, [])).2.1).toNat (0, [], [], [], [])).2.2.2.2)) : tyN)).bind fun z2 =>
 bif ((decide (x3 ≤ x3)) && (decide (x3 < (IntKind.wrap .i64 (x3 + (1 : Int)))))) then
 some ((x2.getD x3.toNat (0, 0, false, 0, 0, 0, false, [])).1, (x2.getD x3.toNat (0, 0, false, 0, 0, 0, false, [])).2.1, (x2.getD x3.toNat (0, 0, false, 0, 0, 0, false, [])).2.2.1, (x2.getD x3.toNat (0, 0, false, 0, 0, 0, false, [])).2.2.2.1, (x2.getD x3.toNat (0, 0, false, 0, 0, 0, false, [])).2.2.2.2.1, (x2.getD x3.toNat (0, 0, false, 0, 0, 0, false, [])).2.2.2.2.2.1, (x2.getD x3.toNat (0, 0, false, 0, 0, 0, false, [])).2.2.2.2.2.2.1, (x2.getD x3.toNat (0, 0, false, 0, 0, 0, false, [])).2.2.2.2.2.2.2, false, x0, z2, z0)
 else none
 else none
 else none
 else
 bif ((decide ((0 : Int) ≤ ((x2.getD x3.toNat (0, 0, false, 0, 0, 0, false, [])).1))) && (decide (((x2.getD x3.toNat (0, 0, false, 0, 0, 0, false, [])).1) < (((x1.getD ((x2.getD x3.toNat (0, 0, false, 0, 0, 0, false, [])).2.1).toNat (0, [], [], [], [])).2.2.2.2).length : Int)))) then
 (f_impl_Arrived (((x1.getD ((x2.getD x3.toNat (0, 0, false, 0, 0, 0, false, [])).2.1).toNat (0, [], [], [], [])).2.2.2.2).getD ((x2.getD x3.toNat (0, 0, false, 0, 0, 0, false, [])).1).toNat 0) ((x2.getD x3.toNat (0, 0, false, 0, 0, 0, false, [])).2.2.2.1)).bind fun y3 =>
 bif (!y3.2) then
 bif ((decide (x3 ≤ x3)) && (decide (x3 < (IntKind.wrap .i64 (x3 + (1 : Int)))))) then
 some ((x2.getD x3.toNat (0, 0, false, 0, 0, 0, false, [])).1, (x2.getD x3.toNat (0, 0, false, 0, 0, 0, false, [])).2.1, (x2.getD x3.toNat (0, 0, false, 0, 0, 0, false, [])).2.2.1, (x2.getD x3.toNat (0, 0, false, 0, 0, 0, false, [])).2.2.2.1, (x2.getD x3.toNat (0, 0, false, 0, 0, 0, false, [])).2.2.2.2.1, (x2.getD x3.toNat (0, 0, false, 0, 0, 0, false, [])).2.2.2.2.2.1, (x2.getD x3.toNat (0, 0, false, 0, 0, 0, false, [])).2.2.2.2.2.2.1, (x2.getD x3.toNat (0, 0, false, 0, 0, 0, false, [])).2.2.2.2.2.2.2, false, x0, x1, z0)
 else none
 else
 bif ((decide (x3 ≤ x3)) && (decide (x3 < (IntKind.wrap .i64 (x3 + (1 : Int)))))) then
 (f_impl_NodeHear ((x1.getD ((x2.getD x3.toNat (0, 0, false, 0, 0, 0, false, [])).2.1).toNat (0, [], [], [], [])).1) ((x1.getD ((x2.getD x3.toNat (0, 0, false, 0, 0, 0, false, [])).2.1).toNat (0, [], [], [], [])).2.1) ((x1.getD ((x2.getD x3.toNat (0, 0, false, 0, 0, 0, false, [])).2.1).toNat (0, [], [], [], [])).2.2.1) ((x1.getD ((x2.getD x3.toNat (0, 0, false, 0, 0, 0, false, [])).2.1).toNat (0, [], [], [], [])).2.2.2.1) ((x1.getD ((x2.getD x3.toNat (0, 0, false, 0, 0, 0, false, [])).2.1).toNat (0, [], [], [], [])).2.2.2.2) x0 ((x2.getD x3.toNat (0, 0, false, 0, 0, 0, false, [])).1) ((x2.getD x3.toNat (0, 0, false, 0, 0, 0, false, [])).2.2.2.2.1) ((x2.getD x3.toNat (0, 0, false, 0, 0, 0, false, [])).2.2.2.2.2.1) ((x2.getD x3.toNat (0, 0, false, 0, 0, 0, false, [])).2.2.2.2.2.2.1) ((x2.getD x3.toNat (0, 0, false, 0, 0, 0, false, [])).2.2.2.2.2.2.2)).bind fun y4 =>
 bif y4.2.2.2.2.2 then
 bif ((decide ((0 : Int) ≤ ((x2.getD x3.toNat (0, 0, false, 0, 0, 0, false, [])).1))) && (decide (((x2.getD x3.toNat (0, 0, false, 0, 0, 0, false, [])).1) < (y4.2.2.2.2.1.length : Int)))) then
 (some ((y4.2.2.2.2.1.set ((x2.getD x3.toNat (0, 0, false, 0, 0, 0, false, [])).1).toNat y3.1) : List Int)).bind fun z5 =>
 (some ((x1.set ((x2.getD x3.toNat (0, 0, false, 0, 0, 0, false, [])).2.1).toNat (y4.1, y4.2.1, y4.2.2.1, y4.2.2.2.1, z5)) : tyN)).bind fun z6 =>
 bif ((decide (x3 ≤ x3)) && (decide (x3 < (IntKind.wrap .i64 (x3 + (1 : Int)))))) then
 some ((x2.getD x3.toNat (0, 0, false, 0, 0, 0, false, [])).1, (x2.getD x3.toNat (0, 0, false, 0, 0, 0, false, [])).2.1, (x2.getD x3.toNat (0, 0, false, 0, 0, 0, false, [])).2.2.1, (x2.getD x3.toNat (0, 0, false, 0, 0, 0, false, [])).2.2.2.1, (x2.getD x3.toNat (0, 0, false, 0, 0, 0, false, [])).2.2.2.2.1, (x2.getD x3.toNat (0, 0, false, 0, 0, 0, false, [])).2.2.2.2.2.1, (x2.getD x3.toNat (0, 0, false, 0, 0, 0, false, [])).2.2.2.2.2.2.1, (x2.getD x3.toNat (0, 0, false, 0, 0, 0, false, [])).2.2.2.2.2.2.2, y4.2.2.2.2.2, x0, z6, z0)
 else none
 else none
 else
 bif ((decide (x3 ≤ x3)) && (decide (x3 < (IntKind.wrap .i64 (x3 + (1 : Int)))))) then
 some ((x2.getD x3.toNat (0, 0, false, 0, 0, 0, false, [])).1, (x2.getD x3.toNat (0, 0, false, 0, 0, 0, false, [])).2.1, (x2.getD x3.toNat (0, 0, false, 0, 0, 0, false, [])).2.2.1, (x2.getD x3.toNat (0, 0, false, 0, 0, 0, false, [])).2.2.2.1, (x2.getD x3.toNat (0, 0, false, 0, 0, 0, false, [])).2.2.2.2.1, (x2.getD x3.toNat (0, 0, false, 0, 0, 0, false, [])).2.2.2.2.2.1, (x2.getD x3.toNat (0, 0, false, 0, 0, 0, false, [])).2.2.2.2.2.2.1, (x2.getD x3.toNat (0, 0, false, 0, 0, 0, false, [])).2.2.2.2.2.2.2, y4.2.2.2.2.2, x0, x1, z0)
 else none
 else none
 else none
 else none
 else none
 else none
noncomputable def C134 : Con := ⟨[(.P [true, true, true], false, [iI, (.sl R8), (.sl R9)]), (.B, false, [iI])], [(true, [iI, iI, .bool, iI, iI, iI, .bool, (.sl R1)]), (false, [.bool])], [iI, (.sl R8), (.sl R9), iI], [iI, iI, .bool, iI, iI, iI, .bool, (.sl R1), .bool, iI, (.sl R8), (.sl R9)], ap4 f_impl_World_give⟩
noncomputable abbrev K134 : Cons := [(135, C135), (182, C182), (183, C183), (184, C184)]
noncomputable abbrev X134 : Nat → Ctx := ctxOf tb K134 Le Qe
theorem E134 : ∀ x, funG fs X134 6 134 C134 x = C134.fn x := fun x => by kernel_rfl
theorem B134 : ConG Tryz.prog 134 C134 := ConG.make FS MIX TY (cons := K134) (L := Le) (ptrs := Qe) ⟨S135, S182, S183, S184, trivial⟩ trivial trivial rfl (by kernel_rfl) E134
theorem S134 : ConS Tryz.prog 134 C134 := B134.call (by kernel_rfl)
noncomputable def f_impl_lacks (x0 : Int) (x1 : List Int) (x2 : Bool) (x3 : Bool) : Option (Bool) :=
 bif (decide (x0 = (0 : Int))) then
 some true
 else
 bif x3 then
 some (!(decide (x0 = (2 : Int))))
 else
 some false
noncomputable def C185 : Con := ⟨[(.B, true, [iI, (.sl R1), .bool]), (.B, false, [.bool])], [(false, [.bool])], [iI, (.sl R1), .bool, .bool], [.bool], ap4 f_impl_lacks⟩
noncomputable abbrev X185 : Nat → Ctx := ctxOf tb Ke Le Qe
theorem E185 : ∀ x, funRun fs X185 6 185 C185 x = C185.fn x := fun x => by kernel_rfl
theorem B185 : ConB Tryz.prog 185 C185 := ConB.make FS MIX TY (cons := Ke) (L := Le) (ptrs := Qe) trivial trivial trivial rfl rfl E185
theorem S185 : ConS Tryz.prog 185 C185 := B185.call rfl
noncomputable def f_impl_Want (x0 : Int) (x1 : tyF) (x2 : tyH) (x3 : tyS) (x4 : List Int) (x5 : Int) (x6 : Int) (x7 : Bool) : Option (Int × tyF × tyH × tyS × List Int × Bool) :=
 (f_impl_copyNode x0 x1 x2 x3 x4).bind fun y0 =>
 (f_impl_NodeOk x0 x1 x2 x3 x4 x5).bind fun y1 =>
 bif (!y1) then
 some (y0.1, y0.2.1, y0.2.2.1, y0.2.2.2.1, y0.2.2.2.2, false)
 else
 (f_impl_isPage x6).bind fun y2 =>
 bif (!y2) then
 some (y0.1, y0.2.1, y0.2.2.1, y0.2.2.2.1, y0.2.2.2.2, false)
 else
 bif ((decide ((0 : Int) ≤ x6)) && (decide (x6 < (x1.length : Int)))) then
 bif (x1.getD x6.toNat (0, [], false)).2.2 then
 some (y0.1, y0.2.1, y0.2.2.1, y0.2.2.2.1, y0.2.2.2.2, false)
 else
 bif ((decide ((0 : Int) ≤ x6)) && (decide (x6 < (x1.length : Int)))) then
 (f_impl_lacks ((x1.getD x6.toNat (0, [], false)).1) ((x1.getD x6.toNat (0, [], false)).2.1) ((x1.getD x6.toNat (0, [], false)).2.2) x7).bind fun y3 =>
 bif (!y3) then
 some (y0.1, y0.2.1, y0.2.2.1, y0.2.2.2.1, y0.2.2.2.2, false)
 else
 bif x7 then
 bif (decide (x5 = (0 : Int))) then none else
 bif ((decide ((0 : Int) ≤ (Int.tmod x6 x5))) && (decide ((Int.tmod x6 x5) < (y0.2.2.2.1.length : Int)))) then
 (f_impl_Queue ((y0.2.2.2.1.getD (Int.tmod x6 x5).toNat (0, [])).1) ((y0.2.2.2.1.getD (Int.tmod x6 x5).toNat (0, [])).2) 2 x6 false []).bind fun y4 =>
 bif (!y4.2.2) then
 some (y0.1, y0.2.1, y0.2.2.1, y0.2.2.2.1, y0.2.2.2.2, false)
 else
 bif ((decide ((0 : Int) ≤ (Int.tmod x6 x5))) && (decide ((Int.tmod x6 x5) < (y0.2.2.2.1.length : Int)))) then
 (some ((y0.2.2.2.1.set (Int.tmod x6 x5).toNat (y4.1, y4.2.1)) : tyS)).bind fun z5 =>
 bif ((decide ((0 : Int) ≤ x6)) && (decide (x6 < (y0.2.1.length : Int)))) then
 (some ((y0.2.1.set x6.toNat ((y0.2.1.getD x6.toNat (0, [], false)).1, (y0.2.1.getD x6.toNat (0, [], false)).2.1, true)) : tyF)).bind fun z6 =>
 some (y0.1, z6, y0.2.2.1, z5, y0.2.2.2.2, true)
 else none
 else none
 else none
 else
 bif (decide (x5 = (0 : Int))) then none else
 bif ((decide ((0 : Int) ≤ (Int.tmod x6 x5))) && (decide ((Int.tmod x6 x5) < (y0.2.2.2.1.length : Int)))) then
 (f_impl_Queue ((y0.2.2.2.1.getD (Int.tmod x6 x5).toNat (0, [])).1) ((y0.2.2.2.1.getD (Int.tmod x6 x5).toNat (0, [])).2) 1 x6 false []).bind fun y7 =>
 bif (!y7.2.2) then
 some (y0.1, y0.2.1, y0.2.2.1, y0.2.2.2.1, y0.2.2.2.2, false)
 else
 bif ((decide ((0 : Int) ≤ (Int.tmod x6 x5))) && (decide ((Int.tmod x6 x5) < (y0.2.2.2.1.length : Int)))) then
 (some ((y0.2.2.2.1.set (Int.tmod x6 x5).toNat (y7.1, y7.2.1)) : tyS)).bind fun z8 =>
 bif ((decide ((0 : Int) ≤ x6)) && (decide (x6 < (y0.2.1.length : Int)))) then
 (some ((y0.2.1.set x6.toNat ((y0.2.1.getD x6.toNat (0, [], false)).1, (y0.2.1.getD x6.toNat (0, [], false)).2.1, true)) : tyF)).bind fun z9 =>
 some (y0.1, z9, y0.2.2.1, z8, y0.2.2.2.2, true)
 else none
 else none
 else none
 else none
 else none
noncomputable def C136 : Con := ⟨[(.B, true, [iI, (.sl R4), (.sl R5), (.sl R7), (.sl R1)]), (.B, false, [iI]), (.B, false, [iI]), (.B, false, [.bool])], [(true, [iI, (.sl R4), (.sl R5), (.sl R7), (.sl R1)]), (false, [.bool])], [iI, (.sl R4), (.sl R5), (.sl R7), (.sl R1), iI, iI, .bool], [iI, (.sl R4), (.sl R5), (.sl R7), (.sl R1), .bool], ap8 f_impl_Want⟩
noncomputable abbrev K136 : Cons := [(50, C50), (73, C73), (157, C157), (185, C185), (186, C186)]
noncomputable abbrev X136 : Nat → Ctx := ctxOf tb K136 Le Qe
theorem E136 : ∀ x, funRun fs X136 6 136 C136 x = C136.fn x := fun x => by kernel_rfl
theorem B136 : ConB Tryz.prog 136 C136 := ConB.make FS MIX TY (cons := K136) (L := Le) (ptrs := Qe) ⟨S50, S73, S157, S185, S186, trivial⟩ trivial trivial rfl rfl E136
theorem S136 : ConS Tryz.prog 136 C136 := B136.call rfl
end
end Go.Abs
