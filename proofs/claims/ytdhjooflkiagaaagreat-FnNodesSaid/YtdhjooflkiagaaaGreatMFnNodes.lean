import Derived.Test.YtdhjooflkiagaaaGreatProg
import Derived.Test.YtdhjooflkiagaaaGreatAbtD
import Derived.KernelRfl
import Derived.Test.YtdhjooflkiagaaaGreatMFnNodesb
namespace Go.Abs
open Go.Proofs
set_option linter.unusedVariables false
set_option maxRecDepth 100000
noncomputable section
noncomputable def f_spec_DrawNodeOk.l0 : Nat → (List Int) → Int → Int → Int → Option (List Int × Int × Int)
 | 0, _, _, _, _ => none
 | n + 1, p0, p1, p2, p3 =>
 bif (decide (p2 < (p0.length : Int))) then
 bif (decide (p2 < (4000 : Int))) then
 bif ((decide ((0 : Int) ≤ p2)) && (decide (p2 < (p0.length : Int)))) then
 f_spec_DrawNodeOk.l0 n p0 (bitI .and .i64 (IntKind.wrap .i64 ((IntKind.wrap .i64 ((IntKind.wrap .i64 (p1 * (131 : Int))) + (IntKind.wrap .i64 ((p0.getD p2.toNat 0))))) + (7 : Int))) (1073741823 : Int)) (IntKind.wrap .i64 (p2 + (1 : Int))) p3
 else none
 else
 some (p0, p1, p3)
 else
 some (p0, p1, p3)
noncomputable def f_spec_DrawNodeOk (x0 : List Int) : Option (Int × tyF × tyH × tyS × List Int × Int) :=
 (f_spec_DrawNodeOk.l0 N x0 (IntKind.wrap .i64 ((20404 : Int) + (x0.length : Int))) 0 0).bind fun r0 =>
 (f_spec_l5Draw r0.1 0 r0.2.1).bind fun y1 =>
 (f_spec_l1Once r0.1 y1.2.2.2.2.2.2.1 y1.2.2.2.2.2.2.2 9).bind fun y2 =>
 bif y2.1 then
 (f_spec_l1Below r0.1 y2.2.1 y2.2.2 6).bind fun y3 =>
 some (y1.1, y1.2.1, y1.2.2.1, y1.2.2.2.1, y1.2.2.2.2.1, y3.1)
 else
 some (y1.1, y1.2.1, y1.2.2.1, y1.2.2.2.1, y1.2.2.2.2.1, y1.2.2.2.2.2.1)
noncomputable def C52 : Con := ⟨[(.B, false, [(.sl R0)])], [(true, [iI, (.sl R4), (.sl R5), (.sl R7), (.sl R1)]), (false, [iI])], [(.sl R0)], [iI, (.sl R4), (.sl R5), (.sl R7), (.sl R1), iI], fun (p : List Int) => f_spec_DrawNodeOk p⟩
noncomputable abbrev f_spec_DrawNodeOk.l0.u (n : Nat) := fun (p : List Int × Int × Int × Int) => f_spec_DrawNodeOk.l0 n p.1 p.2.1 p.2.2.1 p.2.2.2
noncomputable def f_spec_DrawNodeOk.l0.c : LoopCon := ⟨1081, 5, [0, 3, 4], ⟨[(0, bN R0), (3, i0), (4, i0)], [(1001, .box [i0, .nil (some R4), .nil (some R5), .nil (some R7), .nil (some R1)])], 1081⟩, [(.sl R0), iI, iI, iI], [⟨.exit 0, [0, 3], ⟨[(0, bN R0), (3, i0)], [(1001, .box [i0, .nil (some R4), .nil (some R5), .nil (some R7), .nil (some R1)])], 1081⟩, [(.sl R0), iI, iI]⟩], f_spec_DrawNodeOk.l0.u N⟩
noncomputable abbrev K52 : Cons := [(106, C106), (107, C107), (109, C109)]
noncomputable abbrev L52 : List (Nat × Loops) := [(104, [(3, f_spec_DrawNodeOk.l0.c)])]
abbrev Q52 : List (Nat × List (Int × Nat) × Nat) := []
noncomputable abbrev X52 : Nat → Ctx := ctxOf tb K52 L52 Q52
theorem f_spec_DrawNodeOk.l0.ok : ∀ n p, f_spec_DrawNodeOk.l0.u n p = iterD (roundOf fs X52 5 104 3 true f_spec_DrawNodeOk.l0.c) n p :=
 iter_of (l := f_spec_DrawNodeOk.l0.u) (fun _ => rfl) (fun n p => by kernel_rfl)
theorem E52 : ∀ x, funRun fs X52 6 52 C52 x = C52.fn x := fun x => by kernel_rfl
theorem B52 : ConB Tryz.prog 52 C52 := ConB.make FS MIX TY (cons := K52) (L := L52) (ptrs := Q52) ⟨S106, S107, S109, trivial⟩ trivial ⟨⟨⟨N, fun p => f_spec_DrawNodeOk.l0.ok N p⟩, trivial⟩, trivial⟩ rfl rfl E52
theorem S52 : ConS Tryz.prog 52 C52 := B52.call rfl
noncomputable def f_laws_FnNodes.j0 (p0 : Bool) (p1 : Int) (p2 : Bool) (p3 : Int) (p4 : Int) (p5 : Bool) (p6 : Int) (p7 : Int) (p8 : Int) (p9 : Int) (p10 : tyF) (p11 : tyH) (p12 : tyS) (p13 : List Int) (p14 : tyF) (p15 : tyH) (p16 : tyS) (p17 : List Int) (p18 : tyF) (p19 : tyH) (p20 : tyS) (p21 : List Int) (p22 : tyF) (p23 : tyH) (p24 : tyS) (p25 : List Int) : Option (Bool) :=
 bif (!p2) then
 bif p2 then
 bif (!p5) then
 bif p5 then
 some true
 else
 (f_laws_sameNode p9 p22 p23 p24 p25 p8 p18 p19 p20 p21).bind fun y26 =>
 some y26
 else
 (f_impl_NodeOk p9 p22 p23 p24 p25 p3).bind fun y27 =>
 bif y27 then
 bif ((decide ((0 : Int) ≤ p4)) && (decide (p4 < (p22.length : Int)))) then
 bif (p22.getD p4.toNat (0, [], false)).2.2 then
 bif p5 then
 some true
 else
 (f_laws_sameNode p9 p22 p23 p24 p25 p8 p18 p19 p20 p21).bind fun y28 =>
 some y28
 else
 some false
 else none
 else
 some false
 else
 (f_laws_sameNode p7 p14 p15 p16 p17 p6 p10 p11 p12 p13).bind fun y29 =>
 bif y29 then
 bif (!p5) then
 bif p5 then
 some true
 else
 (f_laws_sameNode p9 p22 p23 p24 p25 p8 p18 p19 p20 p21).bind fun y30 =>
 some y30
 else
 (f_impl_NodeOk p9 p22 p23 p24 p25 p3).bind fun y31 =>
 bif y31 then
 bif ((decide ((0 : Int) ≤ p4)) && (decide (p4 < (p22.length : Int)))) then
 bif (p22.getD p4.toNat (0, [], false)).2.2 then
 bif p5 then
 some true
 else
 (f_laws_sameNode p9 p22 p23 p24 p25 p8 p18 p19 p20 p21).bind fun y32 =>
 some y32
 else
 some false
 else none
 else
 some false
 else
 some false
 else
 (f_impl_NodeOk p7 p14 p15 p16 p17 p1).bind fun y33 =>
 bif y33 then
 bif p2 then
 bif (!p5) then
 bif p5 then
 some true
 else
 (f_laws_sameNode p9 p22 p23 p24 p25 p8 p18 p19 p20 p21).bind fun y34 =>
 some y34
 else
 (f_impl_NodeOk p9 p22 p23 p24 p25 p3).bind fun y35 =>
 bif y35 then
 bif ((decide ((0 : Int) ≤ p4)) && (decide (p4 < (p22.length : Int)))) then
 bif (p22.getD p4.toNat (0, [], false)).2.2 then
 bif p5 then
 some true
 else
 (f_laws_sameNode p9 p22 p23 p24 p25 p8 p18 p19 p20 p21).bind fun y36 =>
 some y36
 else
 some false
 else none
 else
 some false
 else
 (f_laws_sameNode p7 p14 p15 p16 p17 p6 p10 p11 p12 p13).bind fun y37 =>
 bif y37 then
 bif (!p5) then
 bif p5 then
 some true
 else
 (f_laws_sameNode p9 p22 p23 p24 p25 p8 p18 p19 p20 p21).bind fun y38 =>
 some y38
 else
 (f_impl_NodeOk p9 p22 p23 p24 p25 p3).bind fun y39 =>
 bif y39 then
 bif ((decide ((0 : Int) ≤ p4)) && (decide (p4 < (p22.length : Int)))) then
 bif (p22.getD p4.toNat (0, [], false)).2.2 then
 bif p5 then
 some true
 else
 (f_laws_sameNode p9 p22 p23 p24 p25 p8 p18 p19 p20 p21).bind fun y40 =>
 some y40
 else
 some false
 else none
 else
 some false
 else
 some false
 else
 some false
noncomputable def f_laws_FnNodes.j1 (p0 : List Int) (p1 : Bool) : Option (Bool) :=
 (f_laws_big p0).bind fun y2 =>
 bif y2 then
 some true
 else
 (f_spec_DrawNodeHear p0).bind fun y3 =>
 (f_impl_NodeHear y3.1 y3.2.1 y3.2.2.1 y3.2.2.2.1 y3.2.2.2.2.1 y3.2.2.2.2.2.1 y3.2.2.2.2.2.2.1 y3.2.2.2.2.2.2.2.1 y3.2.2.2.2.2.2.2.2.1 y3.2.2.2.2.2.2.2.2.2.1 y3.2.2.2.2.2.2.2.2.2.2).bind fun y4 =>
 (f_spec_NodeHear y3.1 y3.2.1 y3.2.2.1 y3.2.2.2.1 y3.2.2.2.2.1 y3.2.2.2.2.2.1 y3.2.2.2.2.2.2.1 y3.2.2.2.2.2.2.2.1 y3.2.2.2.2.2.2.2.2.1 y3.2.2.2.2.2.2.2.2.2.1 y3.2.2.2.2.2.2.2.2.2.2).bind fun y5 =>
 (f_spec_DrawWant p0).bind fun y6 =>
 (f_impl_Want y6.1 y6.2.1 y6.2.2.1 y6.2.2.2.1 y6.2.2.2.2.1 y6.2.2.2.2.2.1 y6.2.2.2.2.2.2.1 y6.2.2.2.2.2.2.2).bind fun y7 =>
 (f_spec_Want y6.1 y6.2.1 y6.2.2.1 y6.2.2.2.1 y6.2.2.2.2.1 y6.2.2.2.2.2.1 y6.2.2.2.2.2.2.1 y6.2.2.2.2.2.2.2).bind fun y8 =>
 bif (!(y4.2.2.2.2.2 == y5.2.2.2.2.2)) then
 some false
 else
 (f_laws_sameNode y4.1 y4.2.1 y4.2.2.1 y4.2.2.2.1 y4.2.2.2.2.1 y5.1 y5.2.1 y5.2.2.1 y5.2.2.2.1 y5.2.2.2.2.1).bind fun y9 =>
 bif (!y9) then
 some false
 else
 bif (!(y7.2.2.2.2.2 == y8.2.2.2.2.2)) then
 some false
 else
 (f_laws_sameNode y7.1 y7.2.1 y7.2.2.1 y7.2.2.2.1 y7.2.2.2.2.1 y8.1 y8.2.1 y8.2.2.1 y8.2.2.2.1 y8.2.2.2.2.1).bind fun y10 =>
 bif (!y10) then
 some false
 else
 (f_impl_NodeOk y3.1 y3.2.1 y3.2.2.1 y3.2.2.2.1 y3.2.2.2.2.1 y3.2.2.2.2.2.1).bind fun y11 =>
 (f_spec_NodeOk y3.1 y3.2.1 y3.2.2.1 y3.2.2.2.1 y3.2.2.2.2.1 y3.2.2.2.2.2.1).bind fun y12 =>
 bif (!(y11 == y12)) then
 some false
 else
 (f_spec_DrawNodeNew p0).bind fun y13 =>
 (f_impl_NodeNew y13.1 y13.2).bind fun y14 =>
 (f_spec_NodeNew y13.1 y13.2).bind fun y15 =>
 (f_spec_DrawNodeOk p0).bind fun y16 =>
 bif (!(y14.2.2.2.2.2 == y15.2.2.2.2.2)) then
 some false
 else
 bif y14.2.2.2.2.2 then
 (f_impl_NodeOk y14.1 y14.2.1 y14.2.2.1 y14.2.2.2.1 y14.2.2.2.2.1 y13.2).bind fun y17 =>
 bif (!y17) then
 some false
 else
 (f_impl_NodeOk y16.1 y16.2.1 y16.2.2.1 y16.2.2.2.1 y16.2.2.2.2.1 y16.2.2.2.2.2).bind fun y18 =>
 (f_spec_NodeOk y16.1 y16.2.1 y16.2.2.1 y16.2.2.2.1 y16.2.2.2.2.1 y16.2.2.2.2.2).bind fun y19 =>
 bif (!(y18 == y19)) then
 some false
 else
 (f_laws_FnNodes.j0 p1 y3.2.2.2.2.2.1 y4.2.2.2.2.2 y6.2.2.2.2.2.1 y6.2.2.2.2.2.2.1 y7.2.2.2.2.2 y3.1 y4.1 y6.1 y7.1 y3.2.1 y3.2.2.1 y3.2.2.2.1 y3.2.2.2.2.1 y4.2.1 y4.2.2.1 y4.2.2.2.1 y4.2.2.2.2.1 y6.2.1 y6.2.2.1 y6.2.2.2.1 y6.2.2.2.2.1 y7.2.1 y7.2.2.1 y7.2.2.2.1 y7.2.2.2.2.1).bind fun r20 =>
 some r20
 else
 (f_impl_NodeOk y16.1 y16.2.1 y16.2.2.1 y16.2.2.2.1 y16.2.2.2.2.1 y16.2.2.2.2.2).bind fun y21 =>
 (f_spec_NodeOk y16.1 y16.2.1 y16.2.2.1 y16.2.2.2.1 y16.2.2.2.2.1 y16.2.2.2.2.2).bind fun y22 =>
 bif (!(y21 == y22)) then
 some false
 else
 (f_laws_FnNodes.j0 p1 y3.2.2.2.2.2.1 y4.2.2.2.2.2 y6.2.2.2.2.2.1 y6.2.2.2.2.2.2.1 y7.2.2.2.2.2 y3.1 y4.1 y6.1 y7.1 y3.2.1 y3.2.2.1 y3.2.2.2.1 y3.2.2.2.2.1 y4.2.1 y4.2.2.1 y4.2.2.2.1 y4.2.2.2.2.1 y6.2.1 y6.2.2.1 y6.2.2.2.1 y6.2.2.2.2.1 y7.2.1 y7.2.2.1 y7.2.2.2.1 y7.2.2.2.2.1).bind fun r23 =>
 some r23
noncomputable def f_laws_FnNodes (x0 : List Int) : Option (Bool) :=
 (f_laws_FnNodes.j1 x0 false).bind fun r0 =>
 some r0
noncomputable def C9 : Con := ⟨[(.B, false, [(.sl R0)])], [(false, [.bool])], [(.sl R0)], [.bool], fun (p : List Int) => f_laws_FnNodes p⟩
noncomputable abbrev f_laws_FnNodes.j0.u := fun (p : Bool × Int × Bool × Int × Int × Bool × Int × Int × Int × Int × tyF × tyH × tyS × List Int × tyF × tyH × tyS × List Int × tyF × tyH × tyS × List Int × tyF × tyH × tyS × List Int) => f_laws_FnNodes.j0 p.1 p.2.1 p.2.2.1 p.2.2.2.1 p.2.2.2.2.1 p.2.2.2.2.2.1 p.2.2.2.2.2.2.1 p.2.2.2.2.2.2.2.1 p.2.2.2.2.2.2.2.2.1 p.2.2.2.2.2.2.2.2.2.1 p.2.2.2.2.2.2.2.2.2.2.1 p.2.2.2.2.2.2.2.2.2.2.2.1 p.2.2.2.2.2.2.2.2.2.2.2.2.1 p.2.2.2.2.2.2.2.2.2.2.2.2.2.1 p.2.2.2.2.2.2.2.2.2.2.2.2.2.2.1 p.2.2.2.2.2.2.2.2.2.2.2.2.2.2.2.1 p.2.2.2.2.2.2.2.2.2.2.2.2.2.2.2.2.1 p.2.2.2.2.2.2.2.2.2.2.2.2.2.2.2.2.2.1 p.2.2.2.2.2.2.2.2.2.2.2.2.2.2.2.2.2.2.1 p.2.2.2.2.2.2.2.2.2.2.2.2.2.2.2.2.2.2.2.1 p.2.2.2.2.2.2.2.2.2.2.2.2.2.2.2.2.2.2.2.2.1 p.2.2.2.2.2.2.2.2.2.2.2.2.2.2.2.2.2.2.2.2.2.1 p.2.2.2.2.2.2.2.2.2.2.2.2.2.2.2.2.2.2.2.2.2.2.1 p.2.2.2.2.2.2.2.2.2.2.2.2.2.2.2.2.2.2.2.2.2.2.2.1 p.2.2.2.2.2.2.2.2.2.2.2.2.2.2.2.2.2.2.2.2.2.2.2.2.1 p.2.2.2.2.2.2.2.2.2.2.2.2.2.2.2.2.2.2.2.2.2.2.2.2.2
noncomputable def f_laws_FnNodes.j0.c : LoopCon := ⟨1000, 6, [2, 3, 4, 7, 8, 11, 12, 13, 15, 16], ⟨[(2, .bool false), (3, .ptr 1000 0), (4, i0), (7, .ptr 1001 0), (8, .bool false), (11, .ptr 1002 0), (12, i0), (13, i0), (15, .ptr 1003 0), (16, .bool false)], [(1000, .box [i0, .ref 1004 [] none, .ref 1005 [] none, .ref 1006 [] none, .ref 1007 [] none]), (1001, .box [i0, .ref 1008 [] none, .ref 1009 [] none, .ref 1010 [] none, .ref 1011 [] none]), (1002, .box [i0, .ref 1012 [] none, .ref 1013 [] none, .ref 1014 [] none, .ref 1015 [] none]), (1003, .box [i0, .ref 1016 [] none, .ref 1017 [] none, .ref 1018 [] none, .ref 1019 [] none]), (1004, .row R4 []), (1005, .row R5 []), (1006, .row R7 []), (1007, .row R1 []), (1008, .row R4 []), (1009, .row R5 []), (1010, .row R7 []), (1011, .row R1 []), (1012, .row R4 []), (1013, .row R5 []), (1014, .row R7 []), (1015, .row R1 []), (1016, .row R4 []), (1017, .row R5 []), (1018, .row R7 []), (1019, .row R1 [])], 1020⟩, [.bool, iI, .bool, iI, iI, .bool, iI, iI, iI, iI, (.sl R4), (.sl R5), (.sl R7), (.sl R1), (.sl R4), (.sl R5), (.sl R7), (.sl R1), (.sl R4), (.sl R5), (.sl R7), (.sl R1), (.sl R4), (.sl R5), (.sl R7), (.sl R1)], [⟨.ret, [2], ⟨[(2, .bool false)], [], 1000⟩, [.bool]⟩], f_laws_FnNodes.j0.u⟩
noncomputable abbrev f_laws_FnNodes.j1.u := fun (p : List Int × Bool) => f_laws_FnNodes.j1 p.1 p.2
noncomputable def f_laws_FnNodes.j1.c : LoopCon := ⟨1000, 6, [0, 2], ⟨[(0, bN R0), (2, .bool false)], [], 1000⟩, [(.sl R0), .bool], [⟨.ret, [2], ⟨[(2, .bool false)], [], 1000⟩, [.bool]⟩], f_laws_FnNodes.j1.u⟩
noncomputable abbrev K9 : Cons := [(19, C19), (21, C21), (31, C31), (42, C42), (43, C43), (44, C44), (45, C45), (46, C46), (47, C47), (48, C48), (49, C49), (50, C50), (51, C51), (52, C52)]
noncomputable abbrev L9 : List (Nat × Loops) := [(9, [(1000017, f_laws_FnNodes.j0.c), (1000001, f_laws_FnNodes.j1.c)])]
abbrev Q9 : List (Nat × List (Int × Nat) × Nat) := []
noncomputable abbrev X9 : Nat → Ctx := ctxOf tb K9 L9 Q9
theorem f_laws_FnNodes.j0.ok : ∀ p, f_laws_FnNodes.j0.u p = iterD (roundOf fs X9 6 9 1000017 false f_laws_FnNodes.j0.c) 1 p := fun p => by kernel_rfl
theorem f_laws_FnNodes.j1.ok : ∀ p, f_laws_FnNodes.j1.u p = iterD (roundOf fs X9 6 9 1000001 false f_laws_FnNodes.j1.c) 1 p := fun p => by kernel_rfl
theorem E9 : ∀ x, funRun fs X9 6 9 C9 x = C9.fn x := fun x => by kernel_rfl
theorem B9 : ConB Tryz.prog 9 C9 := ConB.make FS MIX TY (cons := K9) (L := L9) (ptrs := Q9) ⟨S19, S21, S31, S42, S43, S44, S45, S46, S47, S48, S49, S50, S51, S52, trivial⟩ trivial ⟨⟨⟨1, fun p => f_laws_FnNodes.j0.ok p⟩, ⟨1, fun p => f_laws_FnNodes.j1.ok p⟩, trivial⟩, trivial⟩ rfl rfl E9
theorem S9 : ConS Tryz.prog 9 C9 := B9.call rfl
/-- What is left: the plain law. -/
def Pure : Prop := ∀ x : Tup [(.sl R0)], WfT [(.sl R0)] x → C9.fn x = some (true : Bool)
end
end Go.Abs
