/- The law FnTruth returns true for all codes: what is true of a drawn world, what comes, whether a page is alone and whether the world is sane is answered by the program as by the reference. No condition. -/
import Derived.Test.YtdhjooflkiagaaaGreatMFnTruth
import Derived.Laws.BitsLemmas
namespace Go.Abs
open Go.RowKit
set_option linter.unusedVariables false
set_option linter.unusedSimpArgs false

noncomputable def f_slices_Clone_impl_Receiver_impl_Receiver (x0 : List Int) : Option (List Int) := bif Nat.blt (0 + x0.length) 17592186044416 then some x0 else none
noncomputable def f_impl_copyFrame (x0 : Int) (x1 : List Int) (x2 : Bool) : Option (Int × List Int × Bool) :=
 (f_slices_Clone_int_int x1).bind fun y0 =>
 some (x0, y0, x2)
noncomputable def f_slices_Clone_bool_bool (x0 : List Bool) : Option (List Bool) := bif Nat.blt (0 + x0.length) 140737488355328 then some x0 else none
noncomputable def f_slices_Clone_impl_Wait_impl_Wait (x0 : tyW) : Option tyW := bif Nat.blt (0 + x0.length) 8796093022208 then some x0 else none
noncomputable def f_impl_copyHome (x0 : List Int) (x1 : Int) (x2 : List Bool) (x3 : Bool) (x4 : Int) (x5 : Bool) (x6 : Int) (x7 : tyW) : Option (List Int × Int × List Bool × Bool × Int × Bool × Int × tyW) :=
 (f_slices_Clone_int_int x0).bind fun y0 =>
 (f_slices_Clone_bool_bool x2).bind fun y1 =>
 (f_slices_Clone_impl_Wait_impl_Wait x7).bind fun y2 =>
 some (y0, x1, y1, x3, x4, x5, x6, y2)
noncomputable def f_impl_copySender.l0 : Nat → tyM → Int → Int → Int → Int → tyM → tyM → Option (Int × Int × tyM × tyM)
 | 0, _, _, _, _, _, _, _ => none
 | n + 1, p0, p1, p2, p3, p4, p5, p6 =>
 bif (decide (p2 < p1)) then
 bif ((decide ((0 : Int) ≤ p2)) && (decide (p2 < (p0.length : Int)))) then
 (f_impl_copyMsg ((p0.getD p2.toNat (0, 0, false, [])).1) ((p0.getD p2.toNat (0, 0, false, [])).2.1) ((p0.getD p2.toNat (0, 0, false, [])).2.2.1) ((p0.getD p2.toNat (0, 0, false, [])).2.2.2)).bind fun y7 =>
 bif (Nat.blt (p6.length + ([(y7.1, y7.2.1, y7.2.2.1, y7.2.2.2)] : tyM).length) 2932031007402) then
 (some ((p6 ++ ([(y7.1, y7.2.1, y7.2.2.1, y7.2.2.2)] : tyM)) : tyM)).bind fun z8 =>
 f_impl_copySender.l0 n p0 p1 (IntKind.wrap .i64 (p2 + (1 : Int))) p3 p4 p5 z8
 else none
 else none
 else
 some (p3, p4, p5, p6)
noncomputable def f_impl_copySender (x0 : Int) (x1 : tyM) : Option (Int × tyM) :=
 (f_impl_copySender.l0 N x1 (x1.length : Int) 0 0 x0 ([] : tyM) ([] : tyM)).bind fun r0 =>
 some (r0.2.1, r0.2.2.2)
noncomputable def f_impl_copyNode.l2 : Nat → tyS → Int → Int → Int → Int → tyF → tyH → tyS → (List Int) → tyF → tyH → tyS → (List Int) → Option (Int × Int × tyF × tyH × tyS × List Int × tyF × tyH × tyS × List Int)
 | 0, _, _, _, _, _, _, _, _, _, _, _, _, _ => none
 | n + 1, p0, p1, p2, p3, p4, p5, p6, p7, p8, p9, p10, p11, p12 =>
 bif (decide (p2 < p1)) then
 bif ((decide ((0 : Int) ≤ p2)) && (decide (p2 < (p0.length : Int)))) then
 (f_impl_copySender ((p0.getD p2.toNat (0, [])).1) ((p0.getD p2.toNat (0, [])).2)).bind fun y13 =>
 bif (Nat.blt (p11.length + ([(y13.1, y13.2)] : tyS).length) 4398046511104) then
 (some ((p11 ++ ([(y13.1, y13.2)] : tyS)) : tyS)).bind fun z14 =>
 f_impl_copyNode.l2 n p0 p1 (IntKind.wrap .i64 (p2 + (1 : Int))) p3 p4 p5 p6 p7 p8 p9 p10 z14 p12
 else none
 else none
 else
 some (p3, p4, p5, p6, p7, p8, p9, p10, p11, p12)
noncomputable def f_impl_copyNode.l1 : Nat → tyH → Int → Int → Int → tyF → tyH → tyS → (List Int) → Int → Int → tyF → tyH → tyS → (List Int) → tyF → tyH → tyS → (List Int) → Option (Int × tyF × tyH × tyS × List Int × Int × Int × tyF × tyH × tyS × List Int × tyF × tyH × tyS × List Int)
 | 0, _, _, _, _, _, _, _, _, _, _, _, _, _, _, _, _, _, _ => none
 | n + 1, p0, p1, p2, p3, p4, p5, p6, p7, p8, p9, p10, p11, p12, p13, p14, p15, p16, p17 =>
 bif (decide (p2 < p1)) then
 bif ((decide ((0 : Int) ≤ p2)) && (decide (p2 < (p0.length : Int)))) then
 (f_impl_copyHome ((p0.getD p2.toNat ([], 0, [], false, 0, false, 0, [])).1) ((p0.getD p2.toNat ([], 0, [], false, 0, false, 0, [])).2.1) ((p0.getD p2.toNat ([], 0, [], false, 0, false, 0, [])).2.2.1) ((p0.getD p2.toNat ([], 0, [], false, 0, false, 0, [])).2.2.2.1) ((p0.getD p2.toNat ([], 0, [], false, 0, false, 0, [])).2.2.2.2.1) ((p0.getD p2.toNat ([], 0, [], false, 0, false, 0, [])).2.2.2.2.2.1) ((p0.getD p2.toNat ([], 0, [], false, 0, false, 0, [])).2.2.2.2.2.2.1) ((p0.getD p2.toNat ([], 0, [], false, 0, false, 0, [])).2.2.2.2.2.2.2)).bind fun y18 =>
 bif (Nat.blt (p15.length + ([(y18.1, y18.2.1, y18.2.2.1, y18.2.2.2.1, y18.2.2.2.2.1, y18.2.2.2.2.2.1, y18.2.2.2.2.2.2.1, y18.2.2.2.2.2.2.2)] : tyH).length) 1256584717458) then
 (some ((p15 ++ ([(y18.1, y18.2.1, y18.2.2.1, y18.2.2.2.1, y18.2.2.2.2.1, y18.2.2.2.2.2.1, y18.2.2.2.2.2.2.1, y18.2.2.2.2.2.2.2)] : tyH)) : tyH)).bind fun z19 =>
 f_impl_copyNode.l1 n p0 p1 (IntKind.wrap .i64 (p2 + (1 : Int))) p3 p4 p5 p6 p7 p8 p9 p10 p11 p12 p13 p14 z19 p16 p17
 else none
 else none
 else
 some (p3, p4, p5, p6, p7, p8, p9, p10, p11, p12, p13, p14, p15, p16, p17)
noncomputable def f_impl_copyNode.l0 : Nat → tyF → Int → Int → Int → tyF → tyH → tyS → (List Int) → Int → Int → tyF → tyH → tyS → (List Int) → tyF → tyH → tyS → (List Int) → Option (Int × tyF × tyH × tyS × List Int × Int × Int × tyF × tyH × tyS × List Int × tyF × tyH × tyS × List Int)
 | 0, _, _, _, _, _, _, _, _, _, _, _, _, _, _, _, _, _, _ => none
 | n + 1, p0, p1, p2, p3, p4, p5, p6, p7, p8, p9, p10, p11, p12, p13, p14, p15, p16, p17 =>
 bif (decide (p2 < p1)) then
 bif ((decide ((0 : Int) ≤ p2)) && (decide (p2 < (p0.length : Int)))) then
 (f_impl_copyFrame ((p0.getD p2.toNat (0, [], false)).1) ((p0.getD p2.toNat (0, [], false)).2.1) ((p0.getD p2.toNat (0, [], false)).2.2)).bind fun y18 =>
 bif (Nat.blt (p14.length + ([(y18.1, y18.2.1, y18.2.2)] : tyF).length) 3518437208883) then
 (some ((p14 ++ ([(y18.1, y18.2.1, y18.2.2)] : tyF)) : tyF)).bind fun z19 =>
 f_impl_copyNode.l0 n p0 p1 (IntKind.wrap .i64 (p2 + (1 : Int))) p3 p4 p5 p6 p7 p8 p9 p10 p11 p12 p13 z19 p15 p16 p17
 else none
 else none
 else
 some (p3, p4, p5, p6, p7, p8, p9, p10, p11, p12, p13, p14, p15, p16, p17)
noncomputable def f_impl_copyNode (x0 : Int) (x1 : tyF) (x2 : tyH) (x3 : tyS) (x4 : List Int) : Option (Int × tyF × tyH × tyS × List Int) :=
 (f_slices_Clone_impl_Receiver_impl_Receiver x4).bind fun y0 =>
 (f_impl_copyNode.l0 N x1 (x1.length : Int) 0 x0 x1 x2 x3 x4 0 x0 ([] : tyF) ([] : tyH) ([] : tyS) ([] : List Int) ([] : tyF) ([] : tyH) ([] : tyS) y0).bind fun r1 =>
 (f_impl_copyNode.l1 N r1.2.2.1 (r1.2.2.1.length : Int) 0 r1.1 r1.2.1 r1.2.2.1 r1.2.2.2.1 r1.2.2.2.2.1 r1.2.2.2.2.2.1 r1.2.2.2.2.2.2.1 r1.2.2.2.2.2.2.2.1 r1.2.2.2.2.2.2.2.2.1 r1.2.2.2.2.2.2.2.2.2.1 r1.2.2.2.2.2.2.2.2.2.2.1 r1.2.2.2.2.2.2.2.2.2.2.2.1 r1.2.2.2.2.2.2.2.2.2.2.2.2.1 r1.2.2.2.2.2.2.2.2.2.2.2.2.2.1 r1.2.2.2.2.2.2.2.2.2.2.2.2.2.2).bind fun r2 =>
 (f_impl_copyNode.l2 N r2.2.2.2.1 (r2.2.2.2.1.length : Int) 0 r2.2.2.2.2.2.1 r2.2.2.2.2.2.2.1 r2.2.2.2.2.2.2.2.1 r2.2.2.2.2.2.2.2.2.1 r2.2.2.2.2.2.2.2.2.2.1 r2.2.2.2.2.2.2.2.2.2.2.1 r2.2.2.2.2.2.2.2.2.2.2.2.1 r2.2.2.2.2.2.2.2.2.2.2.2.2.1 r2.2.2.2.2.2.2.2.2.2.2.2.2.2.1 r2.2.2.2.2.2.2.2.2.2.2.2.2.2.2).bind fun r3 =>
 some (r3.2.1, r3.2.2.2.2.2.2.1, r3.2.2.2.2.2.2.2.1, r3.2.2.2.2.2.2.2.2.1, r3.2.2.2.2.2.2.2.2.2)
noncomputable def f_impl_keeper_give (x0 : List Int) (x1 : Int) (x2 : List Bool) (x3 : Bool) (x4 : Int) (x5 : Bool) (x6 : Int) (x7 : tyW) (x8 : Int) (x9 : tyT) : Option (List Int × Int × List Bool × Bool × Int × Bool × Int × tyW × Int × tyT) :=
 (f_slices_Clone_int_int x0).bind fun y0 =>
 bif (Nat.blt (x9.length + ([(x4, 3, x8, x5, y0)] : tyT).length) 2513169434916) then
 (some ((x9 ++ ([(x4, 3, x8, x5, y0)] : tyT)) : tyT)).bind fun z1 =>
 bif ((decide ((0 : Int) ≤ x4)) && (decide (x4 < (x2.length : Int)))) then
 (some ((x2.set x4.toNat (!x5)) : List Bool)).bind fun z2 =>
 bif x5 then
 some (x0, x4, z2, false, 0, false, x6, x7, x8, z1)
 else
 some (x0, x1, z2, false, 0, false, x6, x7, x8, z1)
 else none
 else none
noncomputable def f_impl_keeper_begin.l0 : Nat → Int → Int → Int → Bool → Int → Bool → Int → Int → Int → Int → (List Bool) → (List Int) → tyW → tyT → Option (Int × Bool × Int × Bool × Int × Int × Int × Int × List Int × List Bool × tyW × tyT)
 | 0, _, _, _, _, _, _, _, _, _, _, _, _, _, _ => none
 | n + 1, p0, p1, p2, p3, p4, p5, p6, p7, p8, p9, p10, p11, p12, p13 =>
 bif (decide (p1 < p0)) then
 bif ((decide ((0 : Int) ≤ p1)) && (decide (p1 < (p10.length : Int)))) then
 bif p5 then
 bif (p10.getD p1.toNat false) then
 bif (!(decide (p1 = p4))) then
 bif (Nat.blt (p13.length + ([(p1, 4, p9, false, [])] : tyT).length) 2513169434916) then
 (some ((p13 ++ ([(p1, 4, p9, false, [])] : tyT)) : tyT)).bind fun z14 =>
 bif ((decide ((0 : Int) ≤ p1)) && (decide (p1 < (p10.length : Int)))) then
 (some ((p10.set p1.toNat false) : List Bool)).bind fun z15 =>
 f_impl_keeper_begin.l0 n p0 (IntKind.wrap .i64 (p1 + (1 : Int))) p2 p3 p4 p5 (IntKind.wrap .i64 (p6 + (1 : Int))) p7 p8 p9 z15 p11 p12 z14
 else none
 else none
 else
 f_impl_keeper_begin.l0 n p0 (IntKind.wrap .i64 (p1 + (1 : Int))) p2 p3 p4 p5 p6 p7 p8 p9 p10 p11 p12 p13
 else
 f_impl_keeper_begin.l0 n p0 (IntKind.wrap .i64 (p1 + (1 : Int))) p2 p3 p4 p5 p6 p7 p8 p9 p10 p11 p12 p13
 else
 f_impl_keeper_begin.l0 n p0 (IntKind.wrap .i64 (p1 + (1 : Int))) p2 p3 p4 p5 p6 p7 p8 p9 p10 p11 p12 p13
 else none
 else
 some (p2, p3, p4, p5, p6, p7, p8, p9, p11, p10, p12, p13)
noncomputable def f_impl_keeper_begin (x0 : List Int) (x1 : Int) (x2 : List Bool) (x3 : Bool) (x4 : Int) (x5 : Bool) (x6 : Int) (x7 : tyW) (x8 : Int) (x9 : tyT) : Option (List Int × Int × List Bool × Bool × Int × Bool × Int × tyW × Int × tyT) :=
 bif (decide ((0 : Int) < (x7.length : Int))) then
 bif (decide ((1 : Int) ≤ (x7.length : Int))) then
 bif (decide ((0 : Int) ≤ x1)) then
 bif (Nat.blt (x9.length + ([(x1, 6, x8, (x7.getD 0 (0, false)).2, [])] : tyT).length) 2513169434916) then
 (some ((x9 ++ ([(x1, 6, x8, (x7.getD 0 (0, false)).2, [])] : tyT)) : tyT)).bind fun z0 =>
 some (x0, x1, x2, true, (x7.getD 0 (0, false)).1, (x7.getD 0 (0, false)).2, x6, ((x7.drop 1).take ((x7.length : Int) - (1 : Int)).toNat), x8, z0)
 else none
 else
 (f_impl_keeper_begin.l0 N (x2.length : Int) 0 x1 true ((x7.getD 0 (0, false)).1) ((x7.getD 0 (0, false)).2) 0 1 ((x7.length : Int) - (1 : Int)) x8 x2 x0 x7 x9).bind fun r1 =>
 bif (decide (r1.2.2.2.2.1 = (0 : Int))) then
 (f_impl_keeper_give r1.2.2.2.2.2.2.2.2.1 r1.1 r1.2.2.2.2.2.2.2.2.2.1 r1.2.1 r1.2.2.1 r1.2.2.2.1 r1.2.2.2.2.1 ((r1.2.2.2.2.2.2.2.2.2.2.1.drop r1.2.2.2.2.2.1.toNat).take r1.2.2.2.2.2.2.1.toNat) r1.2.2.2.2.2.2.2.1 r1.2.2.2.2.2.2.2.2.2.2.2).bind fun y2 =>
 some (y2.1, y2.2.1, y2.2.2.1, y2.2.2.2.1, y2.2.2.2.2.1, y2.2.2.2.2.2.1, y2.2.2.2.2.2.2.1, y2.2.2.2.2.2.2.2.1, y2.2.2.2.2.2.2.2.2.1, y2.2.2.2.2.2.2.2.2.2)
 else
 some (r1.2.2.2.2.2.2.2.2.1, r1.1, r1.2.2.2.2.2.2.2.2.2.1, r1.2.1, r1.2.2.1, r1.2.2.2.1, r1.2.2.2.2.1, ((r1.2.2.2.2.2.2.2.2.2.2.1.drop r1.2.2.2.2.2.1.toNat).take r1.2.2.2.2.2.2.1.toNat), r1.2.2.2.2.2.2.2.1, r1.2.2.2.2.2.2.2.2.2.2.2)
 else none
 else none
noncomputable def f_impl_HomeHear.l1 : Nat → Int → Bool → Int → Bool → Int → Int → Bool → Int → Bool → Int → Int → (List Int) → (List Bool) → tyW → (List Int) → (List Bool) → tyW → tyT → Option (Int × Bool × Int × Bool × Int × Int × Bool × Int × Bool × Int × Int × List Int × List Bool × tyW × List Int × List Bool × tyW × tyT)
 | 0, _, _, _, _, _, _, _, _, _, _, _, _, _, _, _, _, _, _ => none
 | n + 1, p0, p1, p2, p3, p4, p5, p6, p7, p8, p9, p10, p11, p12, p13, p14, p15, p16, p17 =>
 bif (!p6) then
 bif (decide ((0 : Int) < (p16.length : Int))) then
 (f_impl_keeper_begin p14 p5 p15 p6 p7 p8 p9 p16 p10 p17).bind fun y18 =>
 f_impl_HomeHear.l1 n p0 p1 p2 p3 p4 y18.2.1 y18.2.2.2.1 y18.2.2.2.2.1 y18.2.2.2.2.2.1 y18.2.2.2.2.2.2.1 y18.2.2.2.2.2.2.2.2.1 p11 p12 p13 y18.1 y18.2.2.1 y18.2.2.2.2.2.2.2.1 y18.2.2.2.2.2.2.2.2.2
 else
 some (p0, p1, p2, p3, p4, p5, p6, p7, p8, p9, p10, p11, p12, p13, p14, p15, p16, p17)
 else
 some (p0, p1, p2, p3, p4, p5, p6, p7, p8, p9, p10, p11, p12, p13, p14, p15, p16, p17)
noncomputable def f_impl_HomeHear.j0 (p0 : Int) (p1 : Bool) (p2 : List Int) (p3 : Int) (p4 : List Bool) (p5 : Bool) (p6 : Int) (p7 : Bool) (p8 : Int) (p9 : tyW) (p10 : Int) (p11 : Int) (p12 : Bool) (p13 : List Int) (p14 : Int) (p15 : Bool) (p16 : Int) (p17 : Bool) (p18 : Int) (p19 : Int) (p20 : Bool) (p21 : Int) (p22 : Bool) (p23 : Int) (p24 : Int) (p25 : List Int) (p26 : List Bool) (p27 : tyW) (p28 : List Int) (p29 : List Bool) (p30 : tyW) (p31 : tyT) : Option ((Int × Bool × Int × Bool × Int × Int × Bool × Int × Bool × Int × Int × List Int × List Bool × tyW × List Int × List Bool × tyW × tyT) ⊕ (Int × Bool × Int × Bool × Int × List Int × List Bool × tyW)) :=
 bif p1 then
 bif (Nat.blt (p30.length + ([(p0, (decide (p10 = (2 : Int))))] : tyW).length) 8796093022208) then
 (some ((p30 ++ ([(p0, (decide (p10 = (2 : Int))))] : tyW)) : tyW)).bind fun z32 =>
 some (.inl (p14, p15, p16, p17, p18, p19, p20, p21, p22, p23, p24, p25, p26, p27, p28, p29, z32, p31))
 else none
 else
 bif (decide (p10 = (5 : Int))) then
 bif p20 then
 bif (decide ((0 : Int) < p23)) then
 bif (decide ((IntKind.wrap .i64 (p23 - (1 : Int))) = (0 : Int))) then
 (f_impl_keeper_give p28 p19 p29 p20 p21 p22 (IntKind.wrap .i64 (p23 - (1 : Int))) p30 p24 p31).bind fun y33 =>
 some (.inl (p14, p15, p16, p17, p18, y33.2.1, y33.2.2.2.1, y33.2.2.2.2.1, y33.2.2.2.2.2.1, y33.2.2.2.2.2.2.1, y33.2.2.2.2.2.2.2.2.1, p25, p26, p27, y33.1, y33.2.2.1, y33.2.2.2.2.2.2.2.1, y33.2.2.2.2.2.2.2.2.2))
 else
 some (.inl (p14, p15, p16, p17, p18, p19, p20, p21, p22, (IntKind.wrap .i64 (p23 - (1 : Int))), p24, p25, p26, p27, p28, p29, p30, p31))
 else
 bif (decide (p10 = (7 : Int))) then
 bif p20 then
 bif (decide (p0 = p19)) then
 bif (decide (p23 = (0 : Int))) then
 (f_slices_Clone_int_int p13).bind fun y34 =>
 bif (!p22) then
 bif ((decide ((0 : Int) ≤ p19)) && (decide (p19 < (p29.length : Int)))) then
 (some ((p29.set p19.toNat true) : List Bool)).bind fun z35 =>
 (f_impl_keeper_give y34 (-1) z35 p20 p21 p22 p23 p30 p24 p31).bind fun y36 =>
 some (.inl (p14, p15, p16, p17, p18, y36.2.1, y36.2.2.2.1, y36.2.2.2.2.1, y36.2.2.2.2.2.1, y36.2.2.2.2.2.2.1, y36.2.2.2.2.2.2.2.2.1, p25, p26, p27, y36.1, y36.2.2.1, y36.2.2.2.2.2.2.2.1, y36.2.2.2.2.2.2.2.2.2))
 else none
 else
 (f_impl_keeper_give y34 (-1) p29 p20 p21 p22 p23 p30 p24 p31).bind fun y37 =>
 some (.inl (p14, p15, p16, p17, p18, y37.2.1, y37.2.2.2.1, y37.2.2.2.2.1, y37.2.2.2.2.2.1, y37.2.2.2.2.2.2.1, y37.2.2.2.2.2.2.2.2.1, p25, p26, p27, y37.1, y37.2.2.1, y37.2.2.2.2.2.2.2.1, y37.2.2.2.2.2.2.2.2.2))
 else
 (f_impl_copyHome p2 p3 p4 p5 p6 p7 p8 p9).bind fun y38 =>
 some (.inr (y38.2.1, y38.2.2.2.1, y38.2.2.2.2.1, y38.2.2.2.2.2.1, y38.2.2.2.2.2.2.1, y38.1, y38.2.2.1, y38.2.2.2.2.2.2.2))
 else
 (f_impl_copyHome p2 p3 p4 p5 p6 p7 p8 p9).bind fun y39 =>
 some (.inr (y39.2.1, y39.2.2.2.1, y39.2.2.2.2.1, y39.2.2.2.2.2.1, y39.2.2.2.2.2.2.1, y39.1, y39.2.2.1, y39.2.2.2.2.2.2.2))
 else
 (f_impl_copyHome p2 p3 p4 p5 p6 p7 p8 p9).bind fun y40 =>
 some (.inr (y40.2.1, y40.2.2.2.1, y40.2.2.2.2.1, y40.2.2.2.2.2.1, y40.2.2.2.2.2.2.1, y40.1, y40.2.2.1, y40.2.2.2.2.2.2.2))
 else
 (f_impl_copyHome p2 p3 p4 p5 p6 p7 p8 p9).bind fun y41 =>
 some (.inr (y41.2.1, y41.2.2.2.1, y41.2.2.2.2.1, y41.2.2.2.2.2.1, y41.2.2.2.2.2.2.1, y41.1, y41.2.2.1, y41.2.2.2.2.2.2.2))
 else
 bif (decide (p10 = (7 : Int))) then
 bif p20 then
 bif (decide (p0 = p19)) then
 bif (decide (p23 = (0 : Int))) then
 (f_slices_Clone_int_int p13).bind fun y42 =>
 bif (!p22) then
 bif ((decide ((0 : Int) ≤ p19)) && (decide (p19 < (p29.length : Int)))) then
 (some ((p29.set p19.toNat true) : List Bool)).bind fun z43 =>
 (f_impl_keeper_give y42 (-1) z43 p20 p21 p22 p23 p30 p24 p31).bind fun y44 =>
 some (.inl (p14, p15, p16, p17, p18, y44.2.1, y44.2.2.2.1, y44.2.2.2.2.1, y44.2.2.2.2.2.1, y44.2.2.2.2.2.2.1, y44.2.2.2.2.2.2.2.2.1, p25, p26, p27, y44.1, y44.2.2.1, y44.2.2.2.2.2.2.2.1, y44.2.2.2.2.2.2.2.2.2))
 else none
 else
 (f_impl_keeper_give y42 (-1) p29 p20 p21 p22 p23 p30 p24 p31).bind fun y45 =>
 some (.inl (p14, p15, p16, p17, p18, y45.2.1, y45.2.2.2.1, y45.2.2.2.2.1, y45.2.2.2.2.2.1, y45.2.2.2.2.2.2.1, y45.2.2.2.2.2.2.2.2.1, p25, p26, p27, y45.1, y45.2.2.1, y45.2.2.2.2.2.2.2.1, y45.2.2.2.2.2.2.2.2.2))
 else
 (f_impl_copyHome p2 p3 p4 p5 p6 p7 p8 p9).bind fun y46 =>
 some (.inr (y46.2.1, y46.2.2.2.1, y46.2.2.2.2.1, y46.2.2.2.2.2.1, y46.2.2.2.2.2.2.1, y46.1, y46.2.2.1, y46.2.2.2.2.2.2.2))
 else
 (f_impl_copyHome p2 p3 p4 p5 p6 p7 p8 p9).bind fun y47 =>
 some (.inr (y47.2.1, y47.2.2.2.1, y47.2.2.2.2.1, y47.2.2.2.2.2.1, y47.2.2.2.2.2.2.1, y47.1, y47.2.2.1, y47.2.2.2.2.2.2.2))
 else
 (f_impl_copyHome p2 p3 p4 p5 p6 p7 p8 p9).bind fun y48 =>
 some (.inr (y48.2.1, y48.2.2.2.1, y48.2.2.2.2.1, y48.2.2.2.2.2.1, y48.2.2.2.2.2.2.1, y48.1, y48.2.2.1, y48.2.2.2.2.2.2.2))
 else
 (f_impl_copyHome p2 p3 p4 p5 p6 p7 p8 p9).bind fun y49 =>
 some (.inr (y49.2.1, y49.2.2.2.1, y49.2.2.2.2.1, y49.2.2.2.2.2.1, y49.2.2.2.2.2.2.1, y49.1, y49.2.2.1, y49.2.2.2.2.2.2.2))
 else
 bif (decide (p10 = (7 : Int))) then
 bif p20 then
 bif (decide (p0 = p19)) then
 bif (decide (p23 = (0 : Int))) then
 (f_slices_Clone_int_int p13).bind fun y50 =>
 bif (!p22) then
 bif ((decide ((0 : Int) ≤ p19)) && (decide (p19 < (p29.length : Int)))) then
 (some ((p29.set p19.toNat true) : List Bool)).bind fun z51 =>
 (f_impl_keeper_give y50 (-1) z51 p20 p21 p22 p23 p30 p24 p31).bind fun y52 =>
 some (.inl (p14, p15, p16, p17, p18, y52.2.1, y52.2.2.2.1, y52.2.2.2.2.1, y52.2.2.2.2.2.1, y52.2.2.2.2.2.2.1, y52.2.2.2.2.2.2.2.2.1, p25, p26, p27, y52.1, y52.2.2.1, y52.2.2.2.2.2.2.2.1, y52.2.2.2.2.2.2.2.2.2))
 else none
 else
 (f_impl_keeper_give y50 (-1) p29 p20 p21 p22 p23 p30 p24 p31).bind fun y53 =>
 some (.inl (p14, p15, p16, p17, p18, y53.2.1, y53.2.2.2.1, y53.2.2.2.2.1, y53.2.2.2.2.2.1, y53.2.2.2.2.2.2.1, y53.2.2.2.2.2.2.2.2.1, p25, p26, p27, y53.1, y53.2.2.1, y53.2.2.2.2.2.2.2.1, y53.2.2.2.2.2.2.2.2.2))
 else
 (f_impl_copyHome p2 p3 p4 p5 p6 p7 p8 p9).bind fun y54 =>
 some (.inr (y54.2.1, y54.2.2.2.1, y54.2.2.2.2.1, y54.2.2.2.2.2.1, y54.2.2.2.2.2.2.1, y54.1, y54.2.2.1, y54.2.2.2.2.2.2.2))
 else
 (f_impl_copyHome p2 p3 p4 p5 p6 p7 p8 p9).bind fun y55 =>
 some (.inr (y55.2.1, y55.2.2.2.1, y55.2.2.2.2.1, y55.2.2.2.2.2.1, y55.2.2.2.2.2.2.1, y55.1, y55.2.2.1, y55.2.2.2.2.2.2.2))
 else
 (f_impl_copyHome p2 p3 p4 p5 p6 p7 p8 p9).bind fun y56 =>
 some (.inr (y56.2.1, y56.2.2.2.1, y56.2.2.2.2.1, y56.2.2.2.2.2.1, y56.2.2.2.2.2.2.1, y56.1, y56.2.2.1, y56.2.2.2.2.2.2.2))
 else
 (f_impl_copyHome p2 p3 p4 p5 p6 p7 p8 p9).bind fun y57 =>
 some (.inr (y57.2.1, y57.2.2.2.1, y57.2.2.2.2.1, y57.2.2.2.2.2.1, y57.2.2.2.2.2.2.1, y57.1, y57.2.2.1, y57.2.2.2.2.2.2.2))
noncomputable def f_impl_HomeHear (x0 : List Int) (x1 : Int) (x2 : List Bool) (x3 : Bool) (x4 : Int) (x5 : Bool) (x6 : Int) (x7 : tyW) (x8 : Int) (x9 : Int) (x10 : Int) (x11 : Int) (x12 : Int) (x13 : Bool) (x14 : List Int) : Option (List Int × Int × List Bool × Bool × Int × Bool × Int × tyW × tyT) :=
 (f_impl_HomeOk x0 x1 x2 x3 x4 x5 x6 x7 x8).bind fun y0 =>
 bif (!y0) then
 (f_impl_copyHome x0 x1 x2 x3 x4 x5 x6 x7).bind fun y1 =>
 some (y1.1, y1.2.1, y1.2.2.1, y1.2.2.2.1, y1.2.2.2.2.1, y1.2.2.2.2.2.1, y1.2.2.2.2.2.2.1, y1.2.2.2.2.2.2.2, [])
 else
 (f_impl_MsgOk x11 x12 x13 x14).bind fun y2 =>
 bif (!y2) then
 (f_impl_copyHome x0 x1 x2 x3 x4 x5 x6 x7).bind fun y3 =>
 some (y3.1, y3.2.1, y3.2.2.1, y3.2.2.2.1, y3.2.2.2.2.1, y3.2.2.2.2.2.1, y3.2.2.2.2.2.2.1, y3.2.2.2.2.2.2.2, [])
 else
 (f_impl_isOf x10 x8).bind fun y4 =>
 bif (!y4) then
 (f_impl_copyHome x0 x1 x2 x3 x4 x5 x6 x7).bind fun y5 =>
 some (y5.1, y5.2.1, y5.2.2.1, y5.2.2.2.1, y5.2.2.2.2.1, y5.2.2.2.2.2.1, y5.2.2.2.2.2.2.1, y5.2.2.2.2.2.2.2, [])
 else
 bif (!(decide (x9 = x12))) then
 (f_impl_copyHome x0 x1 x2 x3 x4 x5 x6 x7).bind fun y6 =>
 some (y6.1, y6.2.1, y6.2.2.1, y6.2.2.2.1, y6.2.2.2.2.1, y6.2.2.2.2.2.1, y6.2.2.2.2.2.2.1, y6.2.2.2.2.2.2.2, [])
 else
 (f_impl_copyHome x0 x1 x2 x3 x4 x5 x6 x7).bind fun y7 =>
 bif (decide (x11 = (1 : Int))) then
 (f_impl_HomeHear.j0 x10 (decide ((y7.2.2.2.2.2.2.2.length : Int) < (12 : Int))) x0 x1 x2 x3 x4 x5 x6 x7 x11 x12 x13 x14 0 false 0 false 0 y7.2.1 y7.2.2.2.1 y7.2.2.2.2.1 y7.2.2.2.2.2.1 y7.2.2.2.2.2.2.1 x9 ([] : List Int) ([] : List Bool) ([] : tyW) y7.1 y7.2.2.1 y7.2.2.2.2.2.2.2 ([] : tyT)).bind fun r8 =>
 cs r8 (fun a9 =>
 (f_impl_HomeHear.l1 N a9.1 a9.2.1 a9.2.2.1 a9.2.2.2.1 a9.2.2.2.2.1 a9.2.2.2.2.2.1 a9.2.2.2.2.2.2.1 a9.2.2.2.2.2.2.2.1 a9.2.2.2.2.2.2.2.2.1 a9.2.2.2.2.2.2.2.2.2.1 a9.2.2.2.2.2.2.2.2.2.2.1 a9.2.2.2.2.2.2.2.2.2.2.2.1 a9.2.2.2.2.2.2.2.2.2.2.2.2.1 a9.2.2.2.2.2.2.2.2.2.2.2.2.2.1 a9.2.2.2.2.2.2.2.2.2.2.2.2.2.2.1 a9.2.2.2.2.2.2.2.2.2.2.2.2.2.2.2.1 a9.2.2.2.2.2.2.2.2.2.2.2.2.2.2.2.2.1 a9.2.2.2.2.2.2.2.2.2.2.2.2.2.2.2.2.2).bind fun r10 =>
 some (r10.2.2.2.2.2.2.2.2.2.2.2.2.2.2.1, r10.2.2.2.2.2.1, r10.2.2.2.2.2.2.2.2.2.2.2.2.2.2.2.1, r10.2.2.2.2.2.2.1, r10.2.2.2.2.2.2.2.1, r10.2.2.2.2.2.2.2.2.1, r10.2.2.2.2.2.2.2.2.2.1, r10.2.2.2.2.2.2.2.2.2.2.2.2.2.2.2.2.1, r10.2.2.2.2.2.2.2.2.2.2.2.2.2.2.2.2.2)) (fun b11 =>
 some (b11.2.2.2.2.2.1, b11.1, b11.2.2.2.2.2.2.1, b11.2.1, b11.2.2.1, b11.2.2.2.1, b11.2.2.2.2.1, b11.2.2.2.2.2.2.2, []))
 else
 bif (decide (x11 = (2 : Int))) then
 (f_impl_HomeHear.j0 x10 (decide ((y7.2.2.2.2.2.2.2.length : Int) < (12 : Int))) x0 x1 x2 x3 x4 x5 x6 x7 x11 x12 x13 x14 0 false 0 false 0 y7.2.1 y7.2.2.2.1 y7.2.2.2.2.1 y7.2.2.2.2.2.1 y7.2.2.2.2.2.2.1 x9 ([] : List Int) ([] : List Bool) ([] : tyW) y7.1 y7.2.2.1 y7.2.2.2.2.2.2.2 ([] : tyT)).bind fun r12 =>
 cs r12 (fun a13 =>
 (f_impl_HomeHear.l1 N a13.1 a13.2.1 a13.2.2.1 a13.2.2.2.1 a13.2.2.2.2.1 a13.2.2.2.2.2.1 a13.2.2.2.2.2.2.1 a13.2.2.2.2.2.2.2.1 a13.2.2.2.2.2.2.2.2.1 a13.2.2.2.2.2.2.2.2.2.1 a13.2.2.2.2.2.2.2.2.2.2.1 a13.2.2.2.2.2.2.2.2.2.2.2.1 a13.2.2.2.2.2.2.2.2.2.2.2.2.1 a13.2.2.2.2.2.2.2.2.2.2.2.2.2.1 a13.2.2.2.2.2.2.2.2.2.2.2.2.2.2.1 a13.2.2.2.2.2.2.2.2.2.2.2.2.2.2.2.1 a13.2.2.2.2.2.2.2.2.2.2.2.2.2.2.2.2.1 a13.2.2.2.2.2.2.2.2.2.2.2.2.2.2.2.2.2).bind fun r14 =>
 some (r14.2.2.2.2.2.2.2.2.2.2.2.2.2.2.1, r14.2.2.2.2.2.1, r14.2.2.2.2.2.2.2.2.2.2.2.2.2.2.2.1, r14.2.2.2.2.2.2.1, r14.2.2.2.2.2.2.2.1, r14.2.2.2.2.2.2.2.2.1, r14.2.2.2.2.2.2.2.2.2.1, r14.2.2.2.2.2.2.2.2.2.2.2.2.2.2.2.2.1, r14.2.2.2.2.2.2.2.2.2.2.2.2.2.2.2.2.2)) (fun b15 =>
 some (b15.2.2.2.2.2.1, b15.1, b15.2.2.2.2.2.2.1, b15.2.1, b15.2.2.1, b15.2.2.2.1, b15.2.2.2.2.1, b15.2.2.2.2.2.2.2, []))
 else
 (f_impl_HomeHear.j0 x10 false x0 x1 x2 x3 x4 x5 x6 x7 x11 x12 x13 x14 0 false 0 false 0 y7.2.1 y7.2.2.2.1 y7.2.2.2.2.1 y7.2.2.2.2.2.1 y7.2.2.2.2.2.2.1 x9 ([] : List Int) ([] : List Bool) ([] : tyW) y7.1 y7.2.2.1 y7.2.2.2.2.2.2.2 ([] : tyT)).bind fun r16 =>
 cs r16 (fun a17 =>
 (f_impl_HomeHear.l1 N a17.1 a17.2.1 a17.2.2.1 a17.2.2.2.1 a17.2.2.2.2.1 a17.2.2.2.2.2.1 a17.2.2.2.2.2.2.1 a17.2.2.2.2.2.2.2.1 a17.2.2.2.2.2.2.2.2.1 a17.2.2.2.2.2.2.2.2.2.1 a17.2.2.2.2.2.2.2.2.2.2.1 a17.2.2.2.2.2.2.2.2.2.2.2.1 a17.2.2.2.2.2.2.2.2.2.2.2.2.1 a17.2.2.2.2.2.2.2.2.2.2.2.2.2.1 a17.2.2.2.2.2.2.2.2.2.2.2.2.2.2.1 a17.2.2.2.2.2.2.2.2.2.2.2.2.2.2.2.1 a17.2.2.2.2.2.2.2.2.2.2.2.2.2.2.2.2.1 a17.2.2.2.2.2.2.2.2.2.2.2.2.2.2.2.2.2).bind fun r18 =>
 some (r18.2.2.2.2.2.2.2.2.2.2.2.2.2.2.1, r18.2.2.2.2.2.1, r18.2.2.2.2.2.2.2.2.2.2.2.2.2.2.2.1, r18.2.2.2.2.2.2.1, r18.2.2.2.2.2.2.2.1, r18.2.2.2.2.2.2.2.2.1, r18.2.2.2.2.2.2.2.2.2.1, r18.2.2.2.2.2.2.2.2.2.2.2.2.2.2.2.2.1, r18.2.2.2.2.2.2.2.2.2.2.2.2.2.2.2.2.2)) (fun b19 =>
 some (b19.2.2.2.2.2.1, b19.1, b19.2.2.2.2.2.2.1, b19.2.1, b19.2.2.1, b19.2.2.2.1, b19.2.2.2.2.1, b19.2.2.2.2.2.2.2, []))
noncomputable def f_impl_Queue (x0 : Int) (x1 : tyM) (x2 : Int) (x3 : Int) (x4 : Bool) (x5 : List Int) : Option (Int × tyM × Bool) :=
 (f_impl_copySender x0 x1).bind fun y0 =>
 (f_impl_SenderOk y0.1 y0.2).bind fun y1 =>
 bif (!y1) then
 some (y0.1, y0.2, false)
 else
 (f_impl_MsgOk x2 x3 x4 x5).bind fun y2 =>
 bif (!y2) then
 some (y0.1, y0.2, false)
 else
 bif (decide ((y0.2.length : Int) = (30 : Int))) then
 some (y0.1, y0.2, false)
 else
 bif (decide ((IntKind.wrap .i64 (y0.1 + (y0.2.length : Int))) = (100000 : Int))) then
 some (y0.1, y0.2, false)
 else
 (f_impl_copyMsg x2 x3 x4 x5).bind fun y3 =>
 bif (Nat.blt (y0.2.length + ([(y3.1, y3.2.1, y3.2.2.1, y3.2.2.2)] : tyM).length) 2932031007402) then
 (some ((y0.2 ++ ([(y3.1, y3.2.1, y3.2.2.1, y3.2.2.2)] : tyM)) : tyM)).bind fun z4 =>
 some (y0.1, z4, true)
 else none
noncomputable def f_impl_Node_toHome.l0 : Nat → Bool → Int → Int → Int → tyT → tyF → tyH → tyS → (List Int) → Option ((Bool × Int × tyF × tyH × tyS × List Int) ⊕ (Bool × Int × tyF × tyH × tyS × List Int))
 | 0, _, _, _, _, _, _, _, _, _ => none
 | n + 1, p0, p1, p2, p3, p4, p5, p6, p7, p8 =>
 bif (decide (p2 < p1)) then
 bif ((decide ((0 : Int) ≤ p2)) && (decide (p2 < (p4.length : Int)))) then
 bif ((decide ((0 : Int) ≤ ((p4.getD p2.toNat (0, 0, 0, false, [])).1))) && (decide (((p4.getD p2.toNat (0, 0, 0, false, [])).1) < (p7.length : Int)))) then
 (f_impl_Queue ((p7.getD ((p4.getD p2.toNat (0, 0, 0, false, [])).1).toNat (0, [])).1) ((p7.getD ((p4.getD p2.toNat (0, 0, 0, false, [])).1).toNat (0, [])).2) ((p4.getD p2.toNat (0, 0, 0, false, [])).2.1) ((p4.getD p2.toNat (0, 0, 0, false, [])).2.2.1) ((p4.getD p2.toNat (0, 0, 0, false, [])).2.2.2.1) ((p4.getD p2.toNat (0, 0, 0, false, [])).2.2.2.2)).bind fun y9 =>
 bif (!y9.2.2) then
 some (.inl (false, p3, p5, p6, p7, p8))
 else
 bif ((decide ((0 : Int) ≤ ((p4.getD p2.toNat (0, 0, 0, false, [])).1))) && (decide (((p4.getD p2.toNat (0, 0, 0, false, [])).1) < (p7.length : Int)))) then
 (some ((p7.set ((p4.getD p2.toNat (0, 0, 0, false, [])).1).toNat (y9.1, y9.2.1)) : tyS)).bind fun z10 =>
 f_impl_Node_toHome.l0 n p0 p1 (IntKind.wrap .i64 (p2 + (1 : Int))) p3 p4 p5 p6 z10 p8
 else none
 else none
 else none
 else
 some (.inr (p0, p3, p5, p6, p7, p8))
noncomputable def f_impl_Node_toHome (x0 : Int) (x1 : tyF) (x2 : tyH) (x3 : tyS) (x4 : List Int) (x5 : Int) (x6 : Int) (x7 : Int) (x8 : Int) (x9 : Bool) (x10 : List Int) : Option (Bool × Int × tyF × tyH × tyS × List Int) :=
 bif ((decide ((0 : Int) ≤ x8)) && (decide (x8 < (x2.length : Int)))) then
 (f_impl_HomeHear ((x2.getD x8.toNat ([], 0, [], false, 0, false, 0, [])).1) ((x2.getD x8.toNat ([], 0, [], false, 0, false, 0, [])).2.1) ((x2.getD x8.toNat ([], 0, [], false, 0, false, 0, [])).2.2.1) ((x2.getD x8.toNat ([], 0, [], false, 0, false, 0, [])).2.2.2.1) ((x2.getD x8.toNat ([], 0, [], false, 0, false, 0, [])).2.2.2.2.1) ((x2.getD x8.toNat ([], 0, [], false, 0, false, 0, [])).2.2.2.2.2.1) ((x2.getD x8.toNat ([], 0, [], false, 0, false, 0, [])).2.2.2.2.2.2.1) ((x2.getD x8.toNat ([], 0, [], false, 0, false, 0, [])).2.2.2.2.2.2.2) x5 x8 x6 x7 x8 x9 x10).bind fun y0 =>
 bif ((decide ((0 : Int) ≤ x8)) && (decide (x8 < (x2.length : Int)))) then
 (some ((x2.set x8.toNat (y0.1, y0.2.1, y0.2.2.1, y0.2.2.2.1, y0.2.2.2.2.1, y0.2.2.2.2.2.1, y0.2.2.2.2.2.2.1, y0.2.2.2.2.2.2.2.1)) : tyH)).bind fun z1 =>
 (f_impl_Node_toHome.l0 N false (y0.2.2.2.2.2.2.2.2.length : Int) 0 x0 y0.2.2.2.2.2.2.2.2 x1 z1 x3 x4).bind fun r2 =>
 cs r2 (fun a3 =>
 some (a3.1, a3.2.1, a3.2.2.1, a3.2.2.2.1, a3.2.2.2.2.1, a3.2.2.2.2.2)) (fun b4 =>
 some (true, b4.2.1, b4.2.2.1, b4.2.2.2.1, b4.2.2.2.2.1, b4.2.2.2.2.2))
 else none
 else none
noncomputable def f_impl_FrameHear (x0 : Int) (x1 : List Int) (x2 : Bool) (x3 : Int) (x4 : Int) (x5 : Bool) (x6 : List Int) : Option (Int × List Int × Bool × Int × Int × Bool × List Int × Bool) :=
 (f_impl_copyFrame x0 x1 x2).bind fun y0 =>
 (f_impl_FrameOk x0 x1 x2).bind fun y1 =>
 bif (!y1) then
 some (y0.1, y0.2.1, y0.2.2, 0, 0, false, [], false)
 else
 (f_impl_MsgOk x3 x4 x5 x6).bind fun y2 =>
 bif (!y2) then
 some (y0.1, y0.2.1, y0.2.2, 0, 0, false, [], false)
 else
 bif (decide (x3 = (3 : Int))) then
 (f_slices_Clone_int_int x6).bind fun y3 =>
 bif x5 then
 some (2, y3, false, 0, 0, false, [], false)
 else
 some (1, y3, false, 0, 0, false, [], false)
 else
 bif (decide (x3 = (4 : Int))) then
 some (0, [], x2, 5, x4, false, [], true)
 else
 bif (decide (x3 = (6 : Int))) then
 bif (decide (x0 = (2 : Int))) then
 (f_slices_Clone_int_int x1).bind fun y4 =>
 bif x5 then
 some (0, [], x2, 7, x4, false, y4, true)
 else
 some (1, y0.2.1, y0.2.2, 7, x4, false, y4, true)
 else
 some (y0.1, y0.2.1, y0.2.2, 0, 0, false, [], false)
 else
 some (y0.1, y0.2.1, y0.2.2, 0, 0, false, [], false)
noncomputable def f_impl_Node_toFrame (x0 : Int) (x1 : tyF) (x2 : tyH) (x3 : tyS) (x4 : List Int) (x5 : Int) (x6 : Int) (x7 : Int) (x8 : Bool) (x9 : List Int) : Option (Bool × Int × tyF × tyH × tyS × List Int) :=
 bif ((decide ((0 : Int) ≤ x7)) && (decide (x7 < (x1.length : Int)))) then
 (f_impl_FrameHear ((x1.getD x7.toNat (0, [], false)).1) ((x1.getD x7.toNat (0, [], false)).2.1) ((x1.getD x7.toNat (0, [], false)).2.2) x6 x7 x8 x9).bind fun y0 =>
 bif ((decide ((0 : Int) ≤ x7)) && (decide (x7 < (x1.length : Int)))) then
 (some ((x1.set x7.toNat (y0.1, y0.2.1, y0.2.2.1)) : tyF)).bind fun z1 =>
 bif (!y0.2.2.2.2.2.2.2) then
 some (true, x0, z1, x2, x3, x4)
 else
 bif ((decide ((0 : Int) ≤ x5)) && (decide (x5 < (x3.length : Int)))) then
 (f_impl_Queue ((x3.getD x5.toNat (0, [])).1) ((x3.getD x5.toNat (0, [])).2) y0.2.2.2.1 y0.2.2.2.2.1 y0.2.2.2.2.2.1 y0.2.2.2.2.2.2.1).bind fun y2 =>
 bif ((decide ((0 : Int) ≤ x5)) && (decide (x5 < (x3.length : Int)))) then
 (some ((x3.set x5.toNat (y2.1, y2.2.1)) : tyS)).bind fun z3 =>
 some (y2.2.2, x0, z1, x2, z3, x4)
 else none
 else none
 else none
 else none
noncomputable def f_impl_NodeHear (x0 : Int) (x1 : tyF) (x2 : tyH) (x3 : tyS) (x4 : List Int) (x5 : Int) (x6 : Int) (x7 : Int) (x8 : Int) (x9 : Bool) (x10 : List Int) : Option (Int × tyF × tyH × tyS × List Int × Bool) :=
 (f_impl_NodeOk x0 x1 x2 x3 x4 x5).bind fun y0 =>
 bif (!y0) then
 (f_impl_copyNode x0 x1 x2 x3 x4).bind fun y1 =>
 some (y1.1, y1.2.1, y1.2.2.1, y1.2.2.2.1, y1.2.2.2.2, false)
 else
 (f_impl_MsgOk x7 x8 x9 x10).bind fun y2 =>
 bif (!y2) then
 (f_impl_copyNode x0 x1 x2 x3 x4).bind fun y3 =>
 some (y3.1, y3.2.1, y3.2.2.1, y3.2.2.2.1, y3.2.2.2.2, false)
 else
 (f_impl_isOf x6 x5).bind fun y4 =>
 bif (!y4) then
 (f_impl_copyNode x0 x1 x2 x3 x4).bind fun y5 =>
 some (y5.1, y5.2.1, y5.2.2.1, y5.2.2.2.1, y5.2.2.2.2, false)
 else
 (f_impl_copyNode x0 x1 x2 x3 x4).bind fun y6 =>
 bif (decide (x5 = (0 : Int))) then none else
 bif (decide (x7 = (1 : Int))) then
 bif (decide ((Int.tmod x8 x5) = x0)) then
 (f_impl_Node_toHome y6.1 y6.2.1 y6.2.2.1 y6.2.2.2.1 y6.2.2.2.2 x5 x6 x7 x8 x9 x10).bind fun y7 =>
 bif (!y7.1) then
 (f_impl_copyNode x0 x1 x2 x3 x4).bind fun y8 =>
 some (y8.1, y8.2.1, y8.2.2.1, y8.2.2.2.1, y8.2.2.2.2, false)
 else
 some (y7.2.1, y7.2.2.1, y7.2.2.2.1, y7.2.2.2.2.1, y7.2.2.2.2.2, true)
 else
 some (y6.1, y6.2.1, y6.2.2.1, y6.2.2.2.1, y6.2.2.2.2, true)
 else
 bif (decide (x7 = (2 : Int))) then
 bif (decide ((Int.tmod x8 x5) = x0)) then
 (f_impl_Node_toHome y6.1 y6.2.1 y6.2.2.1 y6.2.2.2.1 y6.2.2.2.2 x5 x6 x7 x8 x9 x10).bind fun y9 =>
 bif (!y9.1) then
 (f_impl_copyNode x0 x1 x2 x3 x4).bind fun y10 =>
 some (y10.1, y10.2.1, y10.2.2.1, y10.2.2.2.1, y10.2.2.2.2, false)
 else
 some (y9.2.1, y9.2.2.1, y9.2.2.2.1, y9.2.2.2.2.1, y9.2.2.2.2.2, true)
 else
 some (y6.1, y6.2.1, y6.2.2.1, y6.2.2.2.1, y6.2.2.2.2, true)
 else
 bif (decide (x7 = (5 : Int))) then
 bif (decide ((Int.tmod x8 x5) = x0)) then
 (f_impl_Node_toHome y6.1 y6.2.1 y6.2.2.1 y6.2.2.2.1 y6.2.2.2.2 x5 x6 x7 x8 x9 x10).bind fun y11 =>
 bif (!y11.1) then
 (f_impl_copyNode x0 x1 x2 x3 x4).bind fun y12 =>
 some (y12.1, y12.2.1, y12.2.2.1, y12.2.2.2.1, y12.2.2.2.2, false)
 else
 some (y11.2.1, y11.2.2.1, y11.2.2.2.1, y11.2.2.2.2.1, y11.2.2.2.2.2, true)
 else
 some (y6.1, y6.2.1, y6.2.2.1, y6.2.2.2.1, y6.2.2.2.2, true)
 else
 bif (decide (x7 = (7 : Int))) then
 bif (decide ((Int.tmod x8 x5) = x0)) then
 (f_impl_Node_toHome y6.1 y6.2.1 y6.2.2.1 y6.2.2.2.1 y6.2.2.2.2 x5 x6 x7 x8 x9 x10).bind fun y13 =>
 bif (!y13.1) then
 (f_impl_copyNode x0 x1 x2 x3 x4).bind fun y14 =>
 some (y14.1, y14.2.1, y14.2.2.1, y14.2.2.2.1, y14.2.2.2.2, false)
 else
 some (y13.2.1, y13.2.2.1, y13.2.2.2.1, y13.2.2.2.2.1, y13.2.2.2.2.2, true)
 else
 some (y6.1, y6.2.1, y6.2.2.1, y6.2.2.2.1, y6.2.2.2.2, true)
 else
 bif (decide ((Int.tmod x8 x5) = x6)) then
 (f_impl_Node_toFrame y6.1 y6.2.1 y6.2.2.1 y6.2.2.2.1 y6.2.2.2.2 x6 x7 x8 x9 x10).bind fun y15 =>
 bif (!y15.1) then
 (f_impl_copyNode x0 x1 x2 x3 x4).bind fun y16 =>
 some (y16.1, y16.2.1, y16.2.2.1, y16.2.2.2.1, y16.2.2.2.2, false)
 else
 some (y15.2.1, y15.2.2.1, y15.2.2.2.1, y15.2.2.2.2.1, y15.2.2.2.2.2, true)
 else
 some (y6.1, y6.2.1, y6.2.2.1, y6.2.2.2.1, y6.2.2.2.2, true)
noncomputable def f_impl_lacks (x0 : Int) (x1 : List Int) (x2 : Bool) (x3 : Bool) : Option (Bool) :=
 bif (decide (x0 = (0 : Int))) then
 some true
 else
 bif x3 then
 some (!(decide (x0 = (2 : Int))))
 else
 some false
noncomputable def f_impl_Want (x0 : Int) (x1 : tyF) (x2 : tyH) (x3 : tyS) (x4 : List Int) (x5 : Int) (x6 : Int) (x7 : Bool) : Option (Int × tyF × tyH × tyS × List Int × Bool) :=
 (f_impl_copyNode x0 x1 x2 x3 x4).bind fun y0 =>
 (f_impl_NodeOk x0 x1 x2 x3 x4 x5).bind fun y1 =>
 bif (!y1) then
 some (y0.1, y0.2.1, y0.2.2.1, y0.2.2.2.1, y0.2.2.2.2, false)
 else
 (f_impl_isPage x6).bind fun y2 =>
 bif (!y2) then
 some (y0.1, y0.2.1, y0.2.2.1, y0.2.2.2.1, y0.2.2.2.2, false)
 else
 bif ((decide ((0 : Int) ≤ x6)) && (decide (x6 < (x1.length : Int)))) then
 bif (x1.getD x6.toNat (0, [], false)).2.2 then
 some (y0.1, y0.2.1, y0.2.2.1, y0.2.2.2.1, y0.2.2.2.2, false)
 else
 bif ((decide ((0 : Int) ≤ x6)) && (decide (x6 < (x1.length : Int)))) then
 (f_impl_lacks ((x1.getD x6.toNat (0, [], false)).1) ((x1.getD x6.toNat (0, [], false)).2.1) ((x1.getD x6.toNat (0, [], false)).2.2) x7).bind fun y3 =>
 bif (!y3) then
 some (y0.1, y0.2.1, y0.2.2.1, y0.2.2.2.1, y0.2.2.2.2, false)
 else
 bif x7 then
 bif (decide (x5 = (0 : Int))) then none else
 bif ((decide ((0 : Int) ≤ (Int.tmod x6 x5))) && (decide ((Int.tmod x6 x5) < (y0.2.2.2.1.length : Int)))) then
 (f_impl_Queue ((y0.2.2.2.1.getD (Int.tmod x6 x5).toNat (0, [])).1) ((y0.2.2.2.1.getD (Int.tmod x6 x5).toNat (0, [])).2) 2 x6 false []).bind fun y4 =>
 bif (!y4.2.2) then
 some (y0.1, y0.2.1, y0.2.2.1, y0.2.2.2.1, y0.2.2.2.2, false)
 else
 bif ((decide ((0 : Int) ≤ (Int.tmod x6 x5))) && (decide ((Int.tmod x6 x5) < (y0.2.2.2.1.length : Int)))) then
 (some ((y0.2.2.2.1.set (Int.tmod x6 x5).toNat (y4.1, y4.2.1)) : tyS)).bind fun z5 =>
 bif ((decide ((0 : Int) ≤ x6)) && (decide (x6 < (y0.2.1.length : Int)))) then
 (some ((y0.2.1.set x6.toNat ((y0.2.1.getD x6.toNat (0, [], false)).1, (y0.2.1.getD x6.toNat (0, [], false)).2.1, true)) : tyF)).bind fun z6 =>
 some (y0.1, z6, y0.2.2.1, z5, y0.2.2.2.2, true)
 else none
 else none
 else none
 else
 bif (decide (x5 = (0 : Int))) then none else
 bif ((decide ((0 : Int) ≤ (Int.tmod x6 x5))) && (decide ((Int.tmod x6 x5) < (y0.2.2.2.1.length : Int)))) then
 (f_impl_Queue ((y0.2.2.2.1.getD (Int.tmod x6 x5).toNat (0, [])).1) ((y0.2.2.2.1.getD (Int.tmod x6 x5).toNat (0, [])).2) 1 x6 false []).bind fun y7 =>
 bif (!y7.2.2) then
 some (y0.1, y0.2.1, y0.2.2.1, y0.2.2.2.1, y0.2.2.2.2, false)
 else
 bif ((decide ((0 : Int) ≤ (Int.tmod x6 x5))) && (decide ((Int.tmod x6 x5) < (y0.2.2.2.1.length : Int)))) then
 (some ((y0.2.2.2.1.set (Int.tmod x6 x5).toNat (y7.1, y7.2.1)) : tyS)).bind fun z8 =>
 bif ((decide ((0 : Int) ≤ x6)) && (decide (x6 < (y0.2.1.length : Int)))) then
 (some ((y0.2.1.set x6.toNat ((y0.2.1.getD x6.toNat (0, [], false)).1, (y0.2.1.getD x6.toNat (0, [], false)).2.1, true)) : tyF)).bind fun z9 =>
 some (y0.1, z9, y0.2.2.1, z8, y0.2.2.2.2, true)
 else none
 else none
 else none
 else none
 else none
theorem w64 {n : Int} (h0 : -9223372036854775808 ≤ n) (h1 : n ≤ 9223372036854775807) : IntKind.wrap .i64 n = n := by
  rw [IntKind.wrap_i64]
  omega
theorem succ_fuel {n d : Nat} (h : d < n) : ∃ m, n = m + 1 := ⟨n - 1, by omega⟩
theorem big : (1048577 : Nat) < N := by decide
theorem mem_getD {α : Type} (x : List α) (d : α) (i : Int) (h0 : 0 ≤ i) (h1 : i < x.length) : x.getD i.toNat d ∈ x := by
  have hlt : i.toNat < x.length := by omega
  rw [List.getD_eq_getElem?_getD, List.getElem?_eq_getElem hlt]
  exact List.getElem_mem hlt
theorem drop_getD {α : Type} (x : List α) (d : α) (i : Int) (h0 : 0 ≤ i) (h1 : i < x.length) : x.drop i.toNat = x.getD i.toNat d :: x.drop (i + 1).toNat := by
  have hlt : i.toNat < x.length := by omega
  have e : (i + 1).toNat = i.toNat + 1 := by omega
  rw [e, List.drop_eq_getElem_cons hlt, List.getD_eq_getElem?_getD, List.getElem?_eq_getElem hlt]
  rfl
theorem lt_N {x : Nat} (h : x ≤ 1048576) : x < N := Nat.lt_of_le_of_lt h (Nat.lt_trans (by omega) big)
def rng (x m : Int) : Bool := decide ((0 : Int) ≤ x) && decide (x ≤ m)
theorem in_rng (x m : Int) : f_spec_l1In x 0 m = some (rng x m) := by
  unfold f_spec_l1In rng
  cases decide ((0 : Int) ≤ x) <;> rfl
theorem from_rng (x m : Int) : f_impl_from x 0 m = some (rng x m) := by
  unfold f_impl_from rng
  cases decide ((0 : Int) ≤ x) <;> rfl
def rg (x a b : Int) : Bool := decide (a ≤ x) && decide (x ≤ b)
theorem in_rg (x a b : Int) : f_spec_l1In x a b = some (rg x a b) := by
  unfold f_spec_l1In rg
  cases decide (a ≤ x) <;> rfl
theorem from_rg (x a b : Int) : f_impl_from x a b = some (rg x a b) := by
  unfold f_impl_from rg
  cases decide (a ≤ x) <;> rfl
def allW (x : List Int) : Bool := x.all fun w => rng w 65535
theorem drop_step (x : List Int) (i : Int) (h0 : 0 ≤ i) (h1 : i < x.length) : x.drop i.toNat = x.getD i.toNat 0 :: x.drop (i + 1).toNat := by
  have hlt : i.toNat < x.length := by omega
  have e : (i + 1).toNat = i.toNat + 1 := by omega
  rw [e, List.drop_eq_getElem_cons hlt, List.getD_eq_getElem?_getD, List.getElem?_eq_getElem hlt]
  rfl
theorem specWords_loop (x : List Int) (hn : x.length ≤ 1048576) (k : Int) (b : Bool) (d : Nat) : ∀ (n : Nat) (i : Int), 0 ≤ i → i ≤ x.length → (x.length : Int) - i = d → d < n →
    f_spec_l1Words.l0 n x k b i = some (bif allW (x.drop i.toNat) then .inr (x, k, b) else .inl false) := by
  induction d with
  | zero =>
    intro n i h0 h1 hd hk
    obtain ⟨n, rfl⟩ := succ_fuel hk
    simp only [f_spec_l1Words.l0]
    rw [decide_eq_false (by omega), cond_false, List.drop_eq_nil_of_le (by omega)]
    rfl
  | succ d ih =>
    intro n i h0 h1 hd hk
    obtain ⟨n, rfl⟩ := succ_fuel hk
    have hw : IntKind.wrap .i64 (i + 1) = i + 1 := w64 (by omega) (by omega)
    simp only [f_spec_l1Words.l0]
    rw [decide_eq_true (show i < (x.length : Int) by omega), decide_eq_true h0, hw, in_rng, drop_step x i h0 (by omega)]
    simp only [cond_true, Bool.and_self, Option.bind_some]
    unfold allW
    rw [List.all_cons]
    cases hr : rng (x.getD i.toNat 0) 65535 with
    | false => rfl
    | true =>
      simp only [Bool.not_true, cond_false, Bool.true_and]
      exact ih n (i + 1) (by omega) (by omega) (by omega) (by omega)
theorem specWords (x : List Int) (hn : x.length ≤ 1048576) (k : Int) : f_spec_l1Words x k = some (allW x && decide ((x.length : Int) = k)) := by
  unfold f_spec_l1Words
  rw [specWords_loop x hn k false x.length N 0 (by omega) (by omega) (by omega) (Nat.lt_of_le_of_lt (by omega) big)]
  simp only [Int.toNat_zero, List.drop_zero, Option.bind_some]
  cases allW x <;> rfl
theorem implWords_loop (x : List Int) (hn : x.length ≤ 1048576) (q : Int) (d : Nat) : ∀ (n : Nat) (i : Int), 0 ≤ i → i ≤ x.length → (x.length : Int) - i = d → d < n →
    (allW (x.drop i.toNat) = true ∧ f_impl_wordsOk.l0 n x q (x.length : Int) i = some (.inr q)) ∨ (allW (x.drop i.toNat) = false ∧ ∃ j : Int, 0 ≤ j ∧ f_impl_wordsOk.l0 n x q (x.length : Int) i = some (.inl j)) := by
  induction d with
  | zero =>
    intro n i h0 h1 hd hk
    obtain ⟨n, rfl⟩ := succ_fuel hk
    simp only [f_impl_wordsOk.l0]
    rw [decide_eq_false (show ¬ i < (x.length : Int) by omega), cond_false, List.drop_eq_nil_of_le (by omega)]
    exact .inl ⟨rfl, rfl⟩
  | succ d ih =>
    intro n i h0 h1 hd hk
    obtain ⟨n, rfl⟩ := succ_fuel hk
    have hw : IntKind.wrap .i64 (i + 1) = i + 1 := w64 (by omega) (by omega)
    have ih2 := ih n (i + 1) (by omega) (by omega) (by omega) (by omega)
    simp only [f_impl_wordsOk.l0]
    rw [decide_eq_true (show i < (x.length : Int) by omega), decide_eq_true h0, hw, drop_step x i h0 (by omega)]
    unfold f_impl_wordsOk_1 f_impl_isWord
    simp only [cond_true, Bool.and_self, from_rng, Option.bind_some]
    unfold allW at ih2 ⊢
    rw [List.all_cons]
    cases hr : rng (x.getD i.toNat 0) 65535 with
    | false => exact .inr ⟨rfl, i, h0, rfl⟩
    | true =>
      simp only [Bool.not_true, cond_false, Bool.true_and]
      exact ih2
theorem implWords (x : List Int) (hn : x.length ≤ 1048576) (k : Int) : f_impl_wordsOk x k = some (allW x && decide ((x.length : Int) = k)) := by
  unfold f_impl_wordsOk
  have h := implWords_loop x hn 0 x.length N 0 (by omega) (by omega) (by omega) (Nat.lt_of_le_of_lt (by omega) big)
  simp only [Int.toNat_zero, List.drop_zero] at h
  cases decide ((x.length : Int) = k) with
  | false => simp
  | true =>
    rcases h with ⟨h1, h2⟩ | ⟨h1, j, h3, h2⟩
    · simp only [cond_true, h2, Option.bind_some, h1, Bool.and_true]; rfl
    · simp only [cond_true, h2, Option.bind_some, h1, Bool.and_true]
      show some (!(decide ((0 : Int) ≤ j))) = some false
      rw [decide_eq_true h3]; rfl
theorem same_frameOk (x0 : Int) (x1 : List Int) (x2 : Bool) (hn : x1.length ≤ 1048576) : ∃ b, f_spec_FrameOk x0 x1 x2 = some b ∧ f_impl_FrameOk x0 x1 x2 = some b := by
  unfold f_spec_FrameOk f_impl_FrameOk
  simp only [specWords x1 hn, implWords x1 hn, in_rng, Option.bind_some]
  by_cases h0 : x0 = 0
  · rw [decide_eq_true h0]; exact ⟨_, rfl, rfl⟩
  · rw [decide_eq_false h0]
    by_cases h1 : x0 = 1
    · subst h1; exact ⟨_, rfl, rfl⟩
    · by_cases h2 : x0 = 2
      · subst h2; exact ⟨_, rfl, rfl⟩
      · have hr : rng x0 2 = false := by
          unfold rng
          by_cases h3 : 0 ≤ x0
          · rw [decide_eq_true h3, decide_eq_false (by omega)]; rfl
          · rw [decide_eq_false h3]; rfl
        rw [hr, decide_eq_false h1, decide_eq_false h2]
        exact ⟨_, rfl, rfl⟩
theorem allW_nil (x : List Int) : (allW x && decide ((x.length : Int) = 0)) = decide ((x.length : Int) = 0) := by
  cases x with
  | nil => rfl
  | cons a x =>
    rw [decide_eq_false (by simp; omega), Bool.and_false]
theorem same_msgOk (x0 x1 : Int) (x2 : Bool) (x3 : List Int) (hn : x3.length ≤ 1048576) : ∃ b, f_spec_MsgOk x0 x1 x2 x3 = some b ∧ f_impl_MsgOk x0 x1 x2 x3 = some b := by
  unfold f_spec_MsgOk f_impl_MsgOk f_impl_isPage
  simp only [specWords x3 hn, implWords x3 hn, in_rg, from_rg, Option.bind_some, allW_nil]
  by_cases h3 : x0 = 3
  · subst h3
    rw [show rg 3 1 7 = true from rfl]
    cases rg x1 0 5 <;> cases x2 <;> exact ⟨_, rfl, rfl⟩
  · by_cases h7 : x0 = 7
    · subst h7
      rw [show rg 7 1 7 = true from rfl]
      cases rg x1 0 5 <;> cases x2 <;> exact ⟨_, rfl, rfl⟩
    · by_cases h6 : x0 = 6
      · subst h6
        rw [show rg 6 1 7 = true from rfl]
        cases rg x1 0 5 <;> cases x2 <;> exact ⟨_, rfl, rfl⟩
      · rw [decide_eq_false h3, decide_eq_false h7, decide_eq_false h6]
        cases rg x0 1 7 <;> cases rg x1 0 5 <;> cases x2 <;> exact ⟨_, rfl, rfl⟩
abbrev MsgL := Int × Int × Bool × List Int
noncomputable def tM (e : MsgL) : Bool := (f_spec_MsgOk e.1 e.2.1 e.2.2.1 e.2.2.2).getD false
theorem tM_eq (e : MsgL) (h : e.2.2.2.length ≤ 1048576) : f_spec_MsgOk e.1 e.2.1 e.2.2.1 e.2.2.2 = some (tM e) ∧ f_impl_MsgOk e.1 e.2.1 e.2.2.1 e.2.2.2 = some (tM e) := by
  obtain ⟨b, h1, h2⟩ := same_msgOk e.1 e.2.1 e.2.2.1 e.2.2.2 h
  unfold tM
  rw [h1, h2]
  exact ⟨rfl, rfl⟩
theorem senderS_loop (x : List MsgL) (hn : x.length ≤ 1048576) (he : ∀ e ∈ x, e.2.2.2.length ≤ 1048576) (c : Bool) (a : Int) (k : Nat) : ∀ (n : Nat) (i : Int), 0 ≤ i → i ≤ x.length → (x.length : Int) - i = k → k < n →
    f_spec_SenderOk.l0 n c i a x = some (bif (x.drop i.toNat).all tM then .inr (c, a, x) else .inl false) := by
  induction k with
  | zero =>
    intro n i h0 h1 hd hk
    obtain ⟨n, rfl⟩ := succ_fuel hk
    simp only [f_spec_SenderOk.l0]
    rw [decide_eq_false (show ¬ i < (x.length : Int) by omega), cond_false, List.drop_eq_nil_of_le (by omega)]
    rfl
  | succ k ih =>
    intro n i h0 h1 hd hk
    obtain ⟨n, rfl⟩ := succ_fuel hk
    have hw : IntKind.wrap .i64 (i + 1) = i + 1 := w64 (by omega) (by omega)
    simp only [f_spec_SenderOk.l0]
    rw [decide_eq_true (show i < (x.length : Int) by omega), decide_eq_true h0, hw, (tM_eq _ (he _ (mem_getD x (0, 0, false, []) i h0 (by omega)))).1, drop_getD x (0, 0, false, []) i h0 (by omega)]
    simp only [cond_true, Bool.and_self, Option.bind_some, List.all_cons]
    cases tM (x.getD i.toNat (0, 0, false, [])) with
    | false => rfl
    | true =>
      simp only [Bool.not_true, cond_false, Bool.true_and]
      exact ih n (i + 1) (by omega) (by omega) (by omega) (by omega)
theorem senderI_loop (x : List MsgL) (hn : x.length ≤ 1048576) (he : ∀ e ∈ x, e.2.2.2.length ≤ 1048576) (q a : Int) (k : Nat) : ∀ (n : Nat) (i : Int), 0 ≤ i → i ≤ x.length → (x.length : Int) - i = k → k < n →
    ((x.drop i.toNat).all tM = true ∧ f_impl_SenderOk.l0 n x q (x.length : Int) i a x = some (.inr (q, a, x))) ∨ ((x.drop i.toNat).all tM = false ∧ ∃ j : Int, 0 ≤ j ∧ f_impl_SenderOk.l0 n x q (x.length : Int) i a x = some (.inl (j, a, x))) := by
  induction k with
  | zero =>
    intro n i h0 h1 hd hk
    obtain ⟨n, rfl⟩ := succ_fuel hk
    simp only [f_impl_SenderOk.l0]
    rw [decide_eq_false (show ¬ i < (x.length : Int) by omega), cond_false, List.drop_eq_nil_of_le (by omega)]
    exact .inl ⟨rfl, rfl⟩
  | succ k ih =>
    intro n i h0 h1 hd hk
    obtain ⟨n, rfl⟩ := succ_fuel hk
    have hw : IntKind.wrap .i64 (i + 1) = i + 1 := w64 (by omega) (by omega)
    have ih2 := ih n (i + 1) (by omega) (by omega) (by omega) (by omega)
    simp only [f_impl_SenderOk.l0, f_impl_SenderOk_1]
    rw [decide_eq_true (show i < (x.length : Int) by omega), decide_eq_true h0, hw, (tM_eq _ (he _ (mem_getD x (0, 0, false, []) i h0 (by omega)))).2, drop_getD x (0, 0, false, []) i h0 (by omega)]
    simp only [cond_true, Bool.and_self, Option.bind_some, List.all_cons]
    cases tM (x.getD i.toNat (0, 0, false, [])) with
    | false => exact .inr ⟨rfl, i, h0, rfl⟩
    | true =>
      simp only [Bool.not_true, cond_false, Bool.true_and]
      exact ih2
theorem same_senderOk (a : Int) (x : List MsgL) (hn : x.length ≤ 1048576) (he : ∀ e ∈ x, e.2.2.2.length ≤ 1048576) : ∃ b, f_spec_SenderOk a x = some b ∧ f_impl_SenderOk a x = some b := by
  unfold f_spec_SenderOk f_impl_SenderOk f_impl_isSeq
  rw [senderS_loop x hn he false a x.length N 0 (by omega) (by omega) (by omega) (lt_N hn)]
  have hi := senderI_loop x hn he 0 a x.length N 0 (by omega) (by omega) (by omega) (lt_N hn)
  simp only [Int.toNat_zero, List.drop_zero, in_rg, from_rg, Option.bind_some] at hi ⊢
  rcases hi with ⟨h1, h2⟩ | ⟨h1, j, h3, h2⟩
  · rw [h1, h2]
    simp only [cond_true, cs, Option.bind_some]
    cases rg a 0 100000 <;> cases decide ((x.length : Int) ≤ 30) <;> cases decide (IntKind.wrap .i64 (a + (x.length : Int)) ≤ 100000) <;> exact ⟨_, rfl, rfl⟩
  · rw [h1, h2]
    simp only [cond_false, cs, Option.bind_some, decide_eq_true h3]
    cases rg a 0 100000 <;> cases decide ((x.length : Int) ≤ 30) <;> cases decide (IntKind.wrap .i64 (a + (x.length : Int)) ≤ 100000) <;> exact ⟨_, rfl, rfl⟩
structure HomeS (x0 : List Int) (x2 : List Bool) (x7 : List (Int × Bool)) : Prop where
  g0 : x0.length ≤ 1048576
  g2 : x2.length ≤ 1048576
  g7 : x7.length ≤ 1048576
theorem all_loop {α β : Type} {d : α} {F : Nat → Int → Option (Bool ⊕ β)} {q : α → Bool} {b : β} (x : List α) (hx : x.length ≤ 1048576) (h0 : ∀ n i, ¬ i < (x.length : Int) → F (n + 1) i = some (.inr b))
    (h1 : ∀ n i, 0 ≤ i → i < (x.length : Int) → x.getD i.toNat d ∈ x → F (n + 1) i = bif q (x.getD i.toNat d) then F n (i + 1) else some (.inl false)) : F N 0 = some (bif x.all q then .inr b else .inl false) := by
  have step : ∀ (k n : Nat) (i : Int), 0 ≤ i → i ≤ x.length → (x.length : Int) - i = k → k < n → F n i = some (bif (x.drop i.toNat).all q then .inr b else .inl false) := by
    intro k
    induction k with
    | zero =>
      intro n i a0 a1 hd hn
      obtain ⟨n, rfl⟩ := succ_fuel hn
      rw [h0 n i (by omega), List.drop_eq_nil_of_le (by omega)]
      rfl
    | succ k ih =>
      intro n i a0 a1 hd hn
      obtain ⟨n, rfl⟩ := succ_fuel hn
      rw [h1 n i a0 (by omega) (mem_getD x d i a0 (by omega)), drop_getD x d i a0 (by omega), List.all_cons]
      cases q (x.getD i.toNat d) with
      | false => rfl
      | true => simp only [cond_true, Bool.true_and]; exact ih n (i + 1) (by omega) (by omega) (by omega) (by omega)
  have := step x.length N 0 (by omega) (by omega) (by omega) (Nat.lt_of_le_of_lt hx (Nat.lt_trans (by omega) big))
  simpa using this
theorem any_loop {α β γ : Type} {d : α} {F : Nat → Int → Option (β ⊕ γ)} {q : α → Bool} {g : Int → β} {e : γ} (x : List α) (hx : x.length ≤ 1048576) (h0 : ∀ n i, ¬ i < (x.length : Int) → F (n + 1) i = some (.inr e))
    (h1 : ∀ n i, 0 ≤ i → i < (x.length : Int) → x.getD i.toNat d ∈ x → F (n + 1) i = bif q (x.getD i.toNat d) then F n (i + 1) else some (.inl (g i))) : (x.all q = true ∧ F N 0 = some (.inr e)) ∨ (x.all q = false ∧ ∃ j : Int, 0 ≤ j ∧ j < x.length ∧ F N 0 = some (.inl (g j))) := by
  have step : ∀ (k n : Nat) (i : Int), 0 ≤ i → i ≤ x.length → (x.length : Int) - i = k → k < n → ((x.drop i.toNat).all q = true ∧ F n i = some (.inr e)) ∨ ((x.drop i.toNat).all q = false ∧ ∃ j : Int, 0 ≤ j ∧ j < x.length ∧ F n i = some (.inl (g j))) := by
    intro k
    induction k with
    | zero =>
      intro n i a0 a1 hd hn
      obtain ⟨n, rfl⟩ := succ_fuel hn
      rw [h0 n i (by omega), List.drop_eq_nil_of_le (by omega)]
      exact .inl ⟨rfl, rfl⟩
    | succ k ih =>
      intro n i a0 a1 hd hn
      obtain ⟨n, rfl⟩ := succ_fuel hn
      rw [h1 n i a0 (by omega) (mem_getD x d i a0 (by omega)), drop_getD x d i a0 (by omega), List.all_cons]
      cases q (x.getD i.toNat d) with
      | false => exact .inr ⟨rfl, i, a0, by omega, rfl⟩
      | true => simp only [cond_true, Bool.true_and]; exact ih n (i + 1) (by omega) (by omega) (by omega) (by omega)
  have := step x.length N 0 (by omega) (by omega) (by omega) (Nat.lt_of_le_of_lt hx (Nat.lt_trans (by omega) big))
  simpa using this
def rng2 (a x m : Int) : Bool := decide (a ≤ x) && decide (x ≤ m)
theorem in_rng2 (a x m : Int) : f_spec_l1In x a m = some (rng2 a x m) := by
  unfold f_spec_l1In rng2
  cases decide (a ≤ x) <;> rfl
theorem from_rng2 (a x m : Int) : f_impl_from x a m = some (rng2 a x m) := by
  unfold f_impl_from rng2
  cases decide (a ≤ x) <;> rfl
def homeOkB (x0 : List Int) (x1 : Int) (x2 : List Bool) (x4 x6 : Int) (x7 : List (Int × Bool)) (x8 : Int) : Bool :=
  rng2 1 x8 4 && (allW x0 && decide ((x0.length : Int) = 4)) && rng2 (-1) x1 (x8 - 1) && decide ((x2.length : Int) = x8) && rng2 0 x4 (x8 - 1) && rng2 0 x6 x8 && decide ((x7.length : Int) ≤ 12) && x7.all fun e => rng2 0 e.1 (x8 - 1)
theorem isOf_rng (x k : Int) (h0 : 1 ≤ k) (h1 : k ≤ 4) : f_impl_isOf x k = some (rng2 0 x (k - 1)) := by
  unfold f_impl_isOf
  have e : rng2 1 k 4 = true := by unfold rng2; rw [decide_eq_true h0, decide_eq_true h1]; rfl
  simp only [from_rng2, e, cond_true, w64 (show -9223372036854775808 ≤ k - 1 by omega) (by omega), Option.bind_some]
theorem specHomeOk (x0 : List Int) (x1 : Int) (x2 : List Bool) (x3 : Bool) (x4 : Int) (x5 : Bool) (x6 : Int) (x7 : List (Int × Bool)) (x8 : Int) (h : HomeS x0 x2 x7) : f_spec_HomeOk x0 x1 x2 x3 x4 x5 x6 x7 x8 = some (homeOkB x0 x1 x2 x4 x6 x7 x8) := by
  unfold f_spec_HomeOk homeOkB
  rw [in_rng2]
  cases hr : rng2 1 x8 4 with
  | false => rfl
  | true =>
    have hr' := hr
    unfold rng2 at hr'
    simp only [Bool.and_eq_true, decide_eq_true_eq] at hr'
    have hl := all_loop (d := ((0 : Int), false)) (F := fun n i => f_spec_HomeOk.l0 n x8 false i x0 x1 x2 x3 x4 x5 x6 x7) (q := fun e => rng2 0 e.1 (x8 - 1)) (b := false) x7 h.g7
      (fun n i hi => by simp only [f_spec_HomeOk.l0, decide_eq_false hi, cond_false])
      (fun n i h0 h1 _ => by
        have := h.g7
        simp only [f_spec_HomeOk.l0, decide_eq_true h1, decide_eq_true h0, cond_true, Bool.and_self, in_rng2, Option.bind_some, w64 (show -9223372036854775808 ≤ x8 - 1 by omega) (by omega), w64 (show -9223372036854775808 ≤ i + 1 by omega) (by omega)]
        cases rng2 0 ((x7.getD i.toNat (0, false)).1) (x8 - 1) <;> rfl)
    simp only [in_rng2, specWords x0 h.g0, Option.bind_some, w64 (show -9223372036854775808 ≤ x8 - 1 by omega) (by omega), hl]
    cases allW x0 && decide ((x0.length : Int) = 4) <;> cases rng2 (-1) x1 (x8 - 1) <;> cases decide ((x2.length : Int) = x8) <;> cases rng2 0 x4 (x8 - 1) <;> cases rng2 0 x6 x8 <;> try rfl
    by_cases h12 : (x7.length : Int) ≤ 12
    · rw [decide_eq_true h12, decide_eq_false (by omega)]
      cases x7.all fun e => rng2 0 e.1 (x8 - 1) <;> rfl
    · rw [decide_eq_false h12, decide_eq_true (by omega)]; rfl
theorem implHomeOk (x0 : List Int) (x1 : Int) (x2 : List Bool) (x3 : Bool) (x4 : Int) (x5 : Bool) (x6 : Int) (x7 : List (Int × Bool)) (x8 : Int) (h : HomeS x0 x2 x7) : f_impl_HomeOk x0 x1 x2 x3 x4 x5 x6 x7 x8 = some (homeOkB x0 x1 x2 x4 x6 x7 x8) := by
  unfold f_impl_HomeOk homeOkB
  rw [from_rng2]
  cases hr : rng2 1 x8 4 with
  | false => rfl
  | true =>
    have hr' := hr
    unfold rng2 at hr'
    simp only [Bool.and_eq_true, decide_eq_true_eq] at hr'
    have hl := any_loop (d := ((0 : Int), false)) (F := fun n i => f_impl_HomeOk.l0 n x7 0 (x7.length : Int) i x0 x1 x2 x3 x4 x5 x6 x7 x8) (q := fun e => rng2 0 e.1 (x8 - 1)) (g := fun i => (i, x0, x1, x2, x3, x4, x5, x6, x7, x8)) (e := (0, x0, x1, x2, x3, x4, x5, x6, x7, x8)) x7 h.g7
      (fun n i hi => by simp only [f_impl_HomeOk.l0, decide_eq_false hi, cond_false])
      (fun n i h0 h1 _ => by
        have := h.g7
        simp only [f_impl_HomeOk.l0, f_impl_HomeOk_1, decide_eq_true h1, decide_eq_true h0, cond_true, Bool.and_self, isOf_rng _ _ hr'.1 hr'.2, Option.bind_some, w64 (show -9223372036854775808 ≤ i + 1 by omega) (by omega)]
        cases rng2 0 ((x7.getD i.toNat (0, false)).1) (x8 - 1) <;> rfl)
    simp only [from_rng2, implWords x0 h.g0, Option.bind_some, isOf_rng _ _ hr'.1 hr'.2, w64 (show -9223372036854775808 ≤ x8 - 1 by omega) (by omega)]
    cases allW x0 && decide ((x0.length : Int) = 4) <;> cases rng2 (-1) x1 (x8 - 1) <;> cases decide ((x2.length : Int) = x8) <;> cases rng2 0 x4 (x8 - 1) <;> cases rng2 0 x6 x8 <;> try rfl
    cases decide ((x7.length : Int) ≤ 12) with
    | false => rfl
    | true =>
      rcases hl with ⟨e1, e2⟩ | ⟨e1, j, e3, _, e2⟩
      · simp only [e2, e1]; rfl
      · simp only [e2, e1, Option.bind_some]
        show some (!(decide ((0 : Int) ≤ j))) = some false
        rw [decide_eq_true e3]; rfl
theorem all2_loop {α α' β : Type} {d : α} {d' : α'} {F : Nat → Int → Option (Bool ⊕ β)} {q : α → Bool} {r : α' → Bool} {b : β} (x : List α) (y : List α') (hx : x.length ≤ 1048576) (hy : y.length = x.length) (h0 : ∀ n i, ¬ i < (x.length : Int) → F (n + 1) i = some (.inr b))
    (h1 : ∀ n i, 0 ≤ i → i < (x.length : Int) → x.getD i.toNat d ∈ x → y.getD i.toNat d' ∈ y → F (n + 1) i = bif q (x.getD i.toNat d) then (bif r (y.getD i.toNat d') then F n (i + 1) else some (.inl false)) else some (.inl false)) : F N 0 = some (bif x.all q && y.all r then .inr b else .inl false) := by
  have step : ∀ (k n : Nat) (i : Int), 0 ≤ i → i ≤ x.length → (x.length : Int) - i = k → k < n → F n i = some (bif (x.drop i.toNat).all q && (y.drop i.toNat).all r then .inr b else .inl false) := by
    intro k
    induction k with
    | zero =>
      intro n i a0 a1 hd hn
      obtain ⟨n, rfl⟩ := succ_fuel hn
      rw [h0 n i (by omega), List.drop_eq_nil_of_le (by omega), List.drop_eq_nil_of_le (by omega)]
      rfl
    | succ k ih =>
      intro n i a0 a1 hd hn
      obtain ⟨n, rfl⟩ := succ_fuel hn
      rw [h1 n i a0 (by omega) (mem_getD x d i a0 (by omega)) (mem_getD y d' i a0 (by omega)), drop_getD x d i a0 (by omega), drop_getD y d' i a0 (by omega), List.all_cons, List.all_cons]
      cases q (x.getD i.toNat d) with
      | false => rfl
      | true =>
        cases r (y.getD i.toNat d') with
        | false => simp
        | true => simp only [cond_true, Bool.true_and]; exact ih n (i + 1) (by omega) (by omega) (by omega) (by omega)
  have := step x.length N 0 (by omega) (by omega) (by omega) (Nat.lt_of_le_of_lt hx (Nat.lt_trans (by omega) big))
  simpa using this
abbrev FrameT := Int × List Int × Bool
def okFrame (e : FrameT) : Prop := e.2.1.length ≤ 1048576
abbrev HomeT := List Int × Int × List Bool × Bool × Int × Bool × Int × List (Int × Bool)
def okHome (e : HomeT) : Prop := HomeS e.1 e.2.2.1 e.2.2.2.2.2.2.2
abbrev SenderT := Int × List MsgL
def okSender (e : SenderT) : Prop := e.2.length ≤ 1048576 ∧ ∀ f ∈ e.2, f.2.2.2.length ≤ 1048576
structure NodeK (x1 : List FrameT) (x2 : List HomeT) (x3 : List SenderT) (x4 : List Int) : Prop where
  l1 : x1.length ≤ 1048576
  l2 : x2.length ≤ 1048576
  l3 : x3.length ≤ 1048576
  l4 : x4.length ≤ 1048576
  e1 : ∀ e ∈ x1, okFrame e
  e2 : ∀ e ∈ x2, okHome e
  e3 : ∀ e ∈ x3, okSender e
noncomputable def tF (e : FrameT) : Bool := (f_spec_FrameOk e.1 e.2.1 e.2.2).getD false
theorem tF_eq (e : FrameT) (h : okFrame e) : f_spec_FrameOk e.1 e.2.1 e.2.2 = some (tF e) ∧ f_impl_FrameOk e.1 e.2.1 e.2.2 = some (tF e) := by
  obtain ⟨b, h1, h2⟩ := same_frameOk e.1 e.2.1 e.2.2 h
  unfold tF
  rw [h1, h2]
  exact ⟨rfl, rfl⟩
noncomputable def tS (e : SenderT) : Bool := (f_spec_SenderOk e.1 e.2).getD false
theorem tS_eq (e : SenderT) (h : okSender e) : f_spec_SenderOk e.1 e.2 = some (tS e) ∧ f_impl_SenderOk e.1 e.2 = some (tS e) := by
  obtain ⟨b, h1, h2⟩ := same_senderOk e.1 e.2 h.1 h.2
  unfold tS
  rw [h1, h2]
  exact ⟨rfl, rfl⟩
def tH (k : Int) (e : HomeT) : Bool := homeOkB e.1 e.2.1 e.2.2.1 e.2.2.2.2.1 e.2.2.2.2.2.2.1 e.2.2.2.2.2.2.2 k
theorem tH_eq (k : Int) (e : HomeT) (h : okHome e) : f_spec_HomeOk e.1 e.2.1 e.2.2.1 e.2.2.2.1 e.2.2.2.2.1 e.2.2.2.2.2.1 e.2.2.2.2.2.2.1 e.2.2.2.2.2.2.2 k = some (tH k e) ∧ f_impl_HomeOk e.1 e.2.1 e.2.2.1 e.2.2.2.1 e.2.2.2.2.1 e.2.2.2.2.2.1 e.2.2.2.2.2.2.1 e.2.2.2.2.2.2.2 k = some (tH k e) :=
  ⟨specHomeOk _ _ _ _ _ _ _ _ _ h, implHomeOk _ _ _ _ _ _ _ _ _ h⟩
noncomputable def nodeOkB (x0 : Int) (x1 : List FrameT) (x2 : List HomeT) (x3 : List SenderT) (x4 : List Int) (k : Int) : Bool :=
  rng2 1 k 4 && (rng2 0 x0 (k - 1) && (decide ((x1.length : Int) = 6) && (decide ((x2.length : Int) = 6) && (decide ((x3.length : Int) = k) && (decide ((x4.length : Int) = k) && ((x1.all tF && x2.all (tH k)) && (x3.all tS && x4.all fun e => rng2 0 e 100000)))))))
theorem specNodeOk (x0 : Int) (x1 : List FrameT) (x2 : List HomeT) (x3 : List SenderT) (x4 : List Int) (k : Int) (h : NodeK x1 x2 x3 x4) : f_spec_NodeOk x0 x1 x2 x3 x4 k = some (nodeOkB x0 x1 x2 x3 x4 k) := by
  unfold f_spec_NodeOk nodeOkB
  rw [in_rng2]
  cases hr : rng2 1 k 4 with
  | false => rfl
  | true =>
    have hr' := hr
    unfold rng2 at hr'
    simp only [Bool.and_eq_true, decide_eq_true_eq] at hr'
    simp only [in_rng2, Option.bind_some, w64 (show -9223372036854775808 ≤ k - 1 by omega) (by omega)]
    cases rng2 0 x0 (k - 1) with
    | false => rfl
    | true =>
      by_cases h1 : (x1.length : Int) = 6
      · rw [decide_eq_true h1]
        by_cases h2 : (x2.length : Int) = 6
        · rw [decide_eq_true h2]
          by_cases h3 : (x3.length : Int) = k
          · rw [decide_eq_true h3]
            by_cases h4 : (x4.length : Int) = k
            · rw [decide_eq_true h4]
              have e0 := all2_loop (d := ((0 : Int), ([] : List Int), false)) (d' := (([] : List Int), (0 : Int), ([] : List Bool), false, (0 : Int), false, (0 : Int), ([] : List (Int × Bool)))) (F := fun n i => f_spec_NodeOk.l0 n k false i x0 x1 x2 x3 x4) (q := tF) (r := tH k) (b := (k, false, x0, x1, x2, x3, x4)) x1 x2 h.l1 (by omega)
                (fun n i hi => by simp only [f_spec_NodeOk.l0, decide_eq_false (show ¬ i < 6 by omega), cond_false])
                (fun n i a0 a1 m1 m2 => by
                  simp only [f_spec_NodeOk.l0, decide_eq_true (show i < 6 by omega), decide_eq_true a0, decide_eq_true a1, decide_eq_true (show i < (x2.length : Int) by omega), cond_true, Bool.and_self, (tF_eq _ (h.e1 _ m1)).1, (tH_eq k _ (h.e2 _ m2)).1, Option.bind_some, w64 (show -9223372036854775808 ≤ i + 1 by omega) (by omega)]
                  cases tF (x1.getD i.toNat (0, [], false)) <;> cases tH k (x2.getD i.toNat ([], 0, [], false, 0, false, 0, [])) <;> rfl)
              have e1 := all2_loop (d := ((0 : Int), ([] : List MsgL))) (d' := (0 : Int)) (F := fun n i => f_spec_NodeOk.l1 n k false i x0 x1 x2 x3 x4) (q := tS) (r := fun e => rng2 0 e 100000) (b := false) x3 x4 h.l3 (by omega)
                (fun n i hi => by simp only [f_spec_NodeOk.l1, decide_eq_false (show ¬ i < k by omega), cond_false])
                (fun n i a0 a1 m1 m2 => by
                  simp only [f_spec_NodeOk.l1, decide_eq_true (show i < k by omega), decide_eq_true a0, decide_eq_true a1, decide_eq_true (show i < (x4.length : Int) by omega), cond_true, Bool.and_self, (tS_eq _ (h.e3 _ m1)).1, in_rng2, Option.bind_some, w64 (show -9223372036854775808 ≤ i + 1 by omega) (by omega)]
                  cases tS (x3.getD i.toNat (0, [])) <;> cases rng2 0 (x4.getD i.toNat 0) 100000 <;> rfl)
              simp only [Bool.not_true, cond_false, e0, Option.bind_some, Bool.true_and]
              cases x1.all tF && x2.all (tH k) with
              | false => rfl
              | true =>
                simp only [cond_true, cs, e1, Option.bind_some, Bool.true_and]
                cases x3.all tS && x4.all fun e => rng2 0 e 100000 <;> rfl
            · rw [decide_eq_false h4]; rfl
          · rw [decide_eq_false h3]; rfl
        · rw [decide_eq_false h2]; rfl
      · rw [decide_eq_false h1]; rfl
theorem implNodeOk (x0 : Int) (x1 : List FrameT) (x2 : List HomeT) (x3 : List SenderT) (x4 : List Int) (k : Int) (h : NodeK x1 x2 x3 x4) : f_impl_NodeOk x0 x1 x2 x3 x4 k = some (nodeOkB x0 x1 x2 x3 x4 k) := by
  unfold f_impl_NodeOk nodeOkB f_impl_isOf
  rw [from_rng2]
  cases hr : rng2 1 k 4 with
  | false => rfl
  | true =>
    have hr' := hr
    unfold rng2 at hr'
    simp only [Bool.and_eq_true, decide_eq_true_eq] at hr'
    simp only [from_rng2, cond_true, Option.bind_some, w64 (show -9223372036854775808 ≤ k - 1 by omega) (by omega), Bool.true_and]
    have f0 := any_loop (d := ((0 : Int), ([] : List Int), false)) (F := fun n i => f_impl_NodeOk.l0 n x1 0 (x1.length : Int) i x0 x1 x2 x3 x4 k) (q := tF) (g := fun i => (i, x0, x1, x2, x3, x4, k)) (e := (0, x0, x1, x2, x3, x4, k)) x1 h.l1
      (fun n i hi => by simp only [f_impl_NodeOk.l0, decide_eq_false hi, cond_false])
      (fun n i a0 a1 m => by
        have := h.l1
        simp only [f_impl_NodeOk.l0, f_impl_NodeOk_1, decide_eq_true a1, decide_eq_true a0, cond_true, Bool.and_self, (tF_eq _ (h.e1 _ m)).2, Option.bind_some, w64 (show -9223372036854775808 ≤ i + 1 by omega) (by omega)]
        cases tF (x1.getD i.toNat (0, [], false)) <;> rfl)
    have f7 := any_loop (d := (([] : List Int), (0 : Int), ([] : List Bool), false, (0 : Int), false, (0 : Int), ([] : List (Int × Bool)))) (F := fun n i => f_impl_NodeOk.l7 n x2 0 (x2.length : Int) i x0 x1 x2 x3 x4 k) (q := tH k) (g := fun i => (i, x0, x1, x2, x3, x4, k)) (e := (0, x0, x1, x2, x3, x4, k)) x2 h.l2
      (fun n i hi => by simp only [f_impl_NodeOk.l7, decide_eq_false hi, cond_false])
      (fun n i a0 a1 m => by
        have := h.l2
        simp only [f_impl_NodeOk.l7, f_impl_NodeOk_2, decide_eq_true a1, decide_eq_true a0, cond_true, Bool.and_self, (tH_eq k _ (h.e2 _ m)).2, Option.bind_some, w64 (show -9223372036854775808 ≤ i + 1 by omega) (by omega)]
        cases tH k (x2.getD i.toNat ([], 0, [], false, 0, false, 0, [])) <;> rfl)
    have f8 := any_loop (d := ((0 : Int), ([] : List MsgL))) (F := fun n i => f_impl_NodeOk.l8 n x3 0 (x3.length : Int) i x0 x1 x2 x3 x4 k) (q := tS) (g := fun i => (i, x0, x1, x2, x3, x4, k)) (e := (0, x0, x1, x2, x3, x4, k)) x3 h.l3
      (fun n i hi => by simp only [f_impl_NodeOk.l8, decide_eq_false hi, cond_false])
      (fun n i a0 a1 m => by
        have := h.l3
        simp only [f_impl_NodeOk.l8, f_impl_NodeOk_3, decide_eq_true a1, decide_eq_true a0, cond_true, Bool.and_self, (tS_eq _ (h.e3 _ m)).2, Option.bind_some, w64 (show -9223372036854775808 ≤ i + 1 by omega) (by omega)]
        cases tS (x3.getD i.toNat (0, [])) <;> rfl)
    have f9 := any_loop (d := (0 : Int)) (F := fun n i => f_impl_NodeOk.l9 n x4 0 (x4.length : Int) i x0 x1 x2 x3 x4 k) (q := fun e => rng2 0 e 100000) (g := fun i => (i, x0, x1, x2, x3, x4, k)) (e := (0, x0, x1, x2, x3, x4, k)) x4 h.l4
      (fun n i hi => by simp only [f_impl_NodeOk.l9, decide_eq_false hi, cond_false])
      (fun n i a0 a1 m => by
        have := h.l4
        simp only [f_impl_NodeOk.l9, f_impl_NodeOk_4, f_impl_isSeq, decide_eq_true a1, decide_eq_true a0, cond_true, Bool.and_self, from_rng2, Option.bind_some, w64 (show -9223372036854775808 ≤ i + 1 by omega) (by omega)]
        cases rng2 0 (x4.getD i.toNat 0) 100000 <;> rfl)
    cases rng2 0 x0 (k - 1) <;> cases decide ((x1.length : Int) = 6) <;> cases decide ((x2.length : Int) = 6) <;> cases decide ((x3.length : Int) = k) <;> cases decide ((x4.length : Int) = k) <;> try rfl
    rcases f0 with ⟨q0, e0⟩ | ⟨q0, j, j0, -, e0⟩
    · rcases f7 with ⟨q7, e7⟩ | ⟨q7, j, j0, -, e7⟩
      · rcases f8 with ⟨q8, e8⟩ | ⟨q8, j, j0, -, e8⟩
        · rcases f9 with ⟨q9, e9⟩ | ⟨q9, j, j0, -, e9⟩
          · simp only [cond_true, e0, e7, e8, e9, q0, q7, q8, q9, Option.bind_some, cs, Bool.and_self]
          · simp only [cond_true, e0, e7, e8, e9, q0, q7, q8, q9, Option.bind_some, cs, Bool.and_self, Bool.and_false, decide_eq_true j0, Bool.not_true]
        · simp only [cond_true, e0, e7, e8, q0, q7, q8, Option.bind_some, cs, Bool.and_self, Bool.and_false, Bool.false_and, decide_eq_true j0, Bool.not_true, cond_false]
      · simp only [cond_true, e0, e7, q0, q7, Option.bind_some, cs, Bool.and_false, Bool.false_and, decide_eq_true j0, Bool.not_true, cond_false]
    · simp only [cond_true, e0, q0, Option.bind_some, cs, Bool.and_false, Bool.false_and, decide_eq_true j0, Bool.not_true, cond_false]
theorem same_packetOk (x0 x1 : Int) (x2 : Bool) (x3 x4 x5 : Int) (x6 : Bool) (x7 : List Int) (x8 : Int) (hn : x7.length ≤ 1048576) : ∃ b, f_spec_PacketOk x0 x1 x2 x3 x4 x5 x6 x7 x8 = some b ∧ f_impl_PacketOk x0 x1 x2 x3 x4 x5 x6 x7 x8 = some b := by
  obtain ⟨b, h1, h2⟩ := same_msgOk x4 x5 x6 x7 hn
  unfold f_spec_PacketOk f_impl_PacketOk f_impl_isOf f_impl_isSeq
  simp only [in_rg, from_rg, Option.bind_some, h1, h2]
  cases rg x8 1 4 with
  | false => exact ⟨_, rfl, rfl⟩
  | true =>
    cases rg x0 0 (IntKind.wrap .i64 (x8 - 1)) with
    | false => exact ⟨_, rfl, rfl⟩
    | true =>
      cases rg x1 0 (IntKind.wrap .i64 (x8 - 1)) with
      | false => exact ⟨_, rfl, rfl⟩
      | true =>
        cases rg x3 0 100000 with
        | false => exact ⟨_, rfl, rfl⟩
        | true => cases x2 <;> cases decide (x4 = 0) <;> cases decide (x5 = 0) <;> cases x6 <;> exact ⟨_, rfl, rfl⟩
abbrev NodeT := Int × List FrameT × List HomeT × List SenderT × List Int
def okNode (e : NodeT) : Prop := NodeK e.2.1 e.2.2.1 e.2.2.2.1 e.2.2.2.2
abbrev PacketT := Int × Int × Bool × Int × Int × Int × Bool × List Int
def okPacket (e : PacketT) : Prop := e.2.2.2.2.2.2.2.length ≤ 1048576
def allF {α : Type} (q : Int → α → Bool) : Int → List α → Bool
  | _, [] => true
  | i, a :: x => q i a && allF q (i + 1) x
theorem alli_loop {α β : Type} {d : α} {F : Nat → Int → Option (Bool ⊕ β)} {q : Int → α → Bool} {b : β} (x : List α) (hx : x.length ≤ 1048576) (h0 : ∀ n i, ¬ i < (x.length : Int) → F (n + 1) i = some (.inr b))
    (h1 : ∀ n i, 0 ≤ i → i < (x.length : Int) → x.getD i.toNat d ∈ x → F (n + 1) i = bif q i (x.getD i.toNat d) then F n (i + 1) else some (.inl false)) : F N 0 = some (bif allF q 0 x then .inr b else .inl false) := by
  have step : ∀ (k n : Nat) (i : Int), 0 ≤ i → i ≤ x.length → (x.length : Int) - i = k → k < n → F n i = some (bif allF q i (x.drop i.toNat) then .inr b else .inl false) := by
    intro k
    induction k with
    | zero =>
      intro n i a0 a1 hd hn
      obtain ⟨n, rfl⟩ := succ_fuel hn
      rw [h0 n i (by omega), List.drop_eq_nil_of_le (by omega)]
      rfl
    | succ k ih =>
      intro n i a0 a1 hd hn
      obtain ⟨n, rfl⟩ := succ_fuel hn
      rw [h1 n i a0 (by omega) (mem_getD x d i a0 (by omega)), drop_getD x d i a0 (by omega)]
      unfold allF
      cases q i (x.getD i.toNat d) with
      | false => rfl
      | true => simp only [cond_true, Bool.true_and]; exact ih n (i + 1) (by omega) (by omega) (by omega) (by omega)
  have := step x.length N 0 (by omega) (by omega) (by omega) (Nat.lt_of_le_of_lt hx (Nat.lt_trans (by omega) big))
  simpa using this
structure WorldK (x1 : List NodeT) (x2 : List PacketT) : Prop where
  l1 : x1.length ≤ 1048576
  l2 : x2.length ≤ 1048576
  e1 : ∀ e ∈ x1, okNode e
  e2 : ∀ e ∈ x2, okPacket e
noncomputable def tP (k : Int) (e : PacketT) : Bool := (f_spec_PacketOk e.1 e.2.1 e.2.2.1 e.2.2.2.1 e.2.2.2.2.1 e.2.2.2.2.2.1 e.2.2.2.2.2.2.1 e.2.2.2.2.2.2.2 k).getD false
theorem tP_eq (k : Int) (e : PacketT) (h : okPacket e) : f_spec_PacketOk e.1 e.2.1 e.2.2.1 e.2.2.2.1 e.2.2.2.2.1 e.2.2.2.2.2.1 e.2.2.2.2.2.2.1 e.2.2.2.2.2.2.2 k = some (tP k e) ∧ f_impl_PacketOk e.1 e.2.1 e.2.2.1 e.2.2.2.1 e.2.2.2.2.1 e.2.2.2.2.2.1 e.2.2.2.2.2.2.1 e.2.2.2.2.2.2.2 k = some (tP k e) := by
  obtain ⟨b, h1, h2⟩ := same_packetOk e.1 e.2.1 e.2.2.1 e.2.2.2.1 e.2.2.2.2.1 e.2.2.2.2.2.1 e.2.2.2.2.2.2.1 e.2.2.2.2.2.2.2 k h
  unfold tP
  rw [h1, h2]
  exact ⟨rfl, rfl⟩
noncomputable def tN (k i : Int) (e : NodeT) : Bool := nodeOkB e.1 e.2.1 e.2.2.1 e.2.2.2.1 e.2.2.2.2 k && decide (e.1 = i)
noncomputable def worldOkB (x0 : Int) (x1 : List NodeT) (x2 : List PacketT) : Bool := rng2 1 x0 4 && (decide ((x1.length : Int) = x0) && (!(decide ((40 : Int) < (x2.length : Int))) && (allF (tN x0) 0 x1 && x2.all (tP x0))))
theorem specWorldOk (x0 : Int) (x1 : List NodeT) (x2 : List PacketT) (h : WorldK x1 x2) : f_spec_WorldOk x0 x1 x2 = some (worldOkB x0 x1 x2) := by
  unfold f_spec_WorldOk worldOkB
  rw [in_rng2]
  cases hr : rng2 1 x0 4 with
  | false => rfl
  | true =>
    simp only [Option.bind_some, Bool.not_true, cond_false, Bool.true_and]
    by_cases h1 : (x1.length : Int) = x0
    · rw [decide_eq_true h1]
      cases decide ((40 : Int) < (x2.length : Int)) with
      | true => rfl
      | false =>
        have e0 := alli_loop (d := ((0 : Int), ([] : List FrameT), ([] : List HomeT), ([] : List SenderT), ([] : List Int))) (F := fun n i => f_spec_WorldOk.l0 n false i x0 x1 x2) (q := tN x0) (b := (false, x0, x1, x2)) x1 h.l1
          (fun n i hi => by simp only [f_spec_WorldOk.l0, decide_eq_false (show ¬ i < x0 by omega), cond_false])
          (fun n i a0 a1 m => by
            have := h.l1
            simp only [f_spec_WorldOk.l0, decide_eq_true (show i < x0 by omega), decide_eq_true a0, decide_eq_true a1, cond_true, Bool.and_self, specNodeOk _ _ _ _ _ _ (h.e1 _ m), Option.bind_some, w64 (show -9223372036854775808 ≤ i + 1 by omega) (by omega)]
            unfold tN
            cases nodeOkB (x1.getD i.toNat (0, [], [], [], [])).1 (x1.getD i.toNat (0, [], [], [], [])).2.1 (x1.getD i.toNat (0, [], [], [], [])).2.2.1 (x1.getD i.toNat (0, [], [], [], [])).2.2.2.1 (x1.getD i.toNat (0, [], [], [], [])).2.2.2.2 x0 <;> cases decide ((x1.getD i.toNat (0, [], [], [], [])).1 = i) <;> rfl)
        have e1 := all_loop (d := ((0 : Int), (0 : Int), false, (0 : Int), (0 : Int), (0 : Int), false, ([] : List Int))) (F := fun n i => f_spec_WorldOk.l1 n false i x0 x1 x2) (q := tP x0) (b := false) x2 h.l2
          (fun n i hi => by simp only [f_spec_WorldOk.l1, decide_eq_false hi, cond_false])
          (fun n i a0 a1 m => by
            have := h.l2
            simp only [f_spec_WorldOk.l1, decide_eq_true a0, decide_eq_true a1, cond_true, Bool.and_self, (tP_eq x0 _ (h.e2 _ m)).1, Option.bind_some, w64 (show -9223372036854775808 ≤ i + 1 by omega) (by omega)]
            cases tP x0 (x2.getD i.toNat (0, 0, false, 0, 0, 0, false, [])) <;> rfl)
        simp only [Bool.not_true, cond_false, e0, Option.bind_some]
        cases allF (tN x0) 0 x1 with
        | false => rfl
        | true =>
          simp only [cond_true, cs, e1, Option.bind_some]
          cases x2.all (tP x0) <;> rfl
    · rw [decide_eq_false h1]; rfl
theorem implWorldOk (x0 : Int) (x1 : List NodeT) (x2 : List PacketT) (h : WorldK x1 x2) : f_impl_WorldOk x0 x1 x2 = some (worldOkB x0 x1 x2) := by
  unfold f_impl_WorldOk worldOkB
  rw [from_rng2]
  cases hr : rng2 1 x0 4 with
  | false => rfl
  | true =>
    simp only [Option.bind_some, Bool.not_true, cond_false, Bool.true_and]
    by_cases h1 : (x1.length : Int) = x0
    · rw [decide_eq_true h1]
      cases decide ((40 : Int) < (x2.length : Int)) with
      | true => rfl
      | false =>
        have e0 := alli_loop (d := ((0 : Int), ([] : List FrameT), ([] : List HomeT), ([] : List SenderT), ([] : List Int))) (F := fun n i => f_impl_WorldOk.l0 n false x1 (x1.length : Int) i x0 x1 x2) (q := tN x0) (b := (false, x0, x1, x2)) x1 h.l1
          (fun n i hi => by simp only [f_impl_WorldOk.l0, decide_eq_false hi, cond_false])
          (fun n i a0 a1 m => by
            have := h.l1
            simp only [f_impl_WorldOk.l0, decide_eq_true a0, decide_eq_true a1, cond_true, Bool.and_self, implNodeOk _ _ _ _ _ _ (h.e1 _ m), Option.bind_some, w64 (show -9223372036854775808 ≤ i + 1 by omega) (by omega)]
            unfold tN
            cases nodeOkB (x1.getD i.toNat (0, [], [], [], [])).1 (x1.getD i.toNat (0, [], [], [], [])).2.1 (x1.getD i.toNat (0, [], [], [], [])).2.2.1 (x1.getD i.toNat (0, [], [], [], [])).2.2.2.1 (x1.getD i.toNat (0, [], [], [], [])).2.2.2.2 x0 <;> cases decide ((x1.getD i.toNat (0, [], [], [], [])).1 = i) <;> rfl)
        have f1 := any_loop (d := ((0 : Int), (0 : Int), false, (0 : Int), (0 : Int), (0 : Int), false, ([] : List Int))) (F := fun n i => f_impl_WorldOk.l1 n x2 0 (x2.length : Int) i x0 x1 x2) (q := tP x0) (g := fun i => (i, x0, x1, x2)) (e := (0, x0, x1, x2)) x2 h.l2
          (fun n i hi => by simp only [f_impl_WorldOk.l1, decide_eq_false hi, cond_false])
          (fun n i a0 a1 m => by
            have := h.l2
            simp only [f_impl_WorldOk.l1, f_impl_WorldOk_1, decide_eq_true a0, decide_eq_true a1, cond_true, Bool.and_self, (tP_eq x0 _ (h.e2 _ m)).2, Option.bind_some, w64 (show -9223372036854775808 ≤ i + 1 by omega) (by omega)]
            cases tP x0 (x2.getD i.toNat (0, 0, false, 0, 0, 0, false, [])) <;> rfl)
        simp only [Bool.not_true, cond_false, e0, Option.bind_some]
        cases allF (tN x0) 0 x1 with
        | false => rfl
        | true =>
          rcases f1 with ⟨q1, e1⟩ | ⟨q1, j, j0, -, e1⟩
          · simp only [cond_true, cs, e1, q1, Option.bind_some, Bool.not_false, Bool.and_self]
          · simp only [cond_true, cs, e1, q1, Option.bind_some, decide_eq_true j0, Bool.not_true, Bool.not_false, Bool.and_false]
    · rw [decide_eq_false h1]; rfl
def sumW {α : Type} (W : α → Int) : List α → Int
  | [] => 0
  | a :: x => W a + sumW W x
def wFrame (e : FrameT) : Int := 2 + (e.2.1.length : Int)
def wHome (e : HomeT) : Int := 5 + (e.1.length : Int) + (e.2.2.1.length : Int) + 2 * (e.2.2.2.2.2.2.2.length : Int)
def wMsg (e : MsgL) : Int := 3 + (e.2.2.2.length : Int)
def wSender (e : SenderT) : Int := 1 + sumW wMsg e.2
def wNode (x1 : List FrameT) (x2 : List HomeT) (x3 : List SenderT) (x4 : List Int) : Int := sumW wFrame x1 + sumW wHome x2 + sumW wSender x3 + (x4.length : Int)
def wNodeE (e : NodeT) : Int := 1 + wNode e.2.1 e.2.2.1 e.2.2.2.1 e.2.2.2.2
theorem tF_state (e : FrameT) (h : tF e = true) : 0 ≤ e.1 ∧ e.1 ≤ 2 := by
  unfold tF f_spec_FrameOk at h
  by_cases h0 : e.1 = 0
  · omega
  · simp only [decide_eq_false h0, cond_false, in_rng, Option.bind_some] at h
    by_cases h1 : rng e.1 2 = true
    · simpa only [rng, Bool.and_eq_true, decide_eq_true_eq] using h1
    · rw [Bool.not_eq_true] at h1
      rw [h1] at h
      cases h
theorem allF_mem {α : Type} {q : Int → α → Bool} : ∀ (x : List α) (i : Int), allF q i x = true → ∀ j (hj : j < x.length), q (i + j) x[j] = true
  | [], _, _, j, hj => by cases hj
  | a :: x, i, h, 0, hj => by
    unfold allF at h
    rw [Bool.and_eq_true] at h
    simpa using h.1
  | a :: x, i, h, j + 1, hj => by
    unfold allF at h
    rw [Bool.and_eq_true] at h
    have := allF_mem x (i + 1) h.2 j (by simpa using hj)
    rw [show i + ((j + 1 : Nat) : Int) = i + 1 + (j : Int) by omega]
    simpa using this
structure NodeFacts (e : NodeT) (k i : Int) : Prop where
  a : e.1 = i
  l1 : e.2.1.length = 6
  l2 : e.2.2.1.length = 6
  l3 : (e.2.2.2.1.length : Int) = k
  l4 : (e.2.2.2.2.length : Int) = k
  f : ∀ g ∈ e.2.1, tF g = true
  h : ∀ g ∈ e.2.2.1, tH k g = true
  s : ∀ g ∈ e.2.2.2.1, tS g = true
  r : ∀ g ∈ e.2.2.2.2, 0 ≤ g ∧ g ≤ 100000
theorem nodeFacts (x0 : Int) (x1 : List FrameT) (x2 : List HomeT) (x3 : List SenderT) (x4 : List Int) (k : Int) (h : nodeOkB x0 x1 x2 x3 x4 k = true) : (1 ≤ k ∧ k ≤ 4) ∧ (0 ≤ x0 ∧ x0 ≤ k - 1) ∧ NodeFacts (x0, x1, x2, x3, x4) k x0 := by
  unfold nodeOkB rng2 at h
  simp only [Bool.and_eq_true, decide_eq_true_eq, List.all_eq_true] at h
  obtain ⟨h1, h2, h3, h4, h5, h6, ⟨h7, h8⟩, h9, h10⟩ := h
  exact ⟨h1, h2, rfl, show x1.length = 6 by omega, show x2.length = 6 by omega, h5, h6, h7, h8, h9, h10⟩
structure WorldFacts (x0 : Int) (x1 : List NodeT) (x2 : List PacketT) : Prop where
  k : 1 ≤ x0 ∧ x0 ≤ 4
  l1 : (x1.length : Int) = x0
  l2 : x2.length ≤ 40
  n : ∀ j (hj : j < x1.length), NodeFacts x1[j] x0 (j : Int)
  p : ∀ e ∈ x2, tP x0 e = true
theorem worldFacts (x0 : Int) (x1 : List NodeT) (x2 : List PacketT) (h : worldOkB x0 x1 x2 = true) : WorldFacts x0 x1 x2 := by
  unfold worldOkB rng2 at h
  simp only [Bool.and_eq_true, decide_eq_true_eq, List.all_eq_true, Bool.not_eq_true', decide_eq_false_iff_not] at h
  obtain ⟨h1, h2, h3, h4, h5⟩ := h
  refine ⟨h1, h2, by omega, fun j hj => ?_, h5⟩
  have := allF_mem x1 0 h4 j hj
  unfold tN at this
  rw [Bool.and_eq_true, decide_eq_true_eq] at this
  obtain ⟨-, -, q⟩ := nodeFacts _ _ _ _ _ _ this.1
  exact ⟨by omega, q.l1, q.l2, q.l3, q.l4, q.f, q.h, q.s, q.r⟩
theorem worldAt {x0 : Int} {x1 : List NodeT} {x2 : List PacketT} (w : WorldFacts x0 x1 x2) (i : Int) (h0 : 0 ≤ i) (h1 : i < (x1.length : Int)) : NodeFacts (x1.getD i.toNat (0, [], [], [], [])) x0 i := by
  have hj : i.toNat < x1.length := by omega
  have := w.n i.toNat hj
  rw [List.getD_eq_getElem?_getD, List.getElem?_eq_getElem hj]
  rw [show ((i.toNat : Nat) : Int) = i by omega] at this
  exact this
theorem cp_gen {α τ : Type} {d : α} {F : Nat → Int → List α → Option τ} {R : List α → τ} (x : List α) (hx : x.length ≤ 1048576) (h0 : ∀ n i y, ¬ i < (x.length : Int) → F (n + 1) i y = some (R y))
    (h1 : ∀ n i y, 0 ≤ i → i < (x.length : Int) → x.getD i.toNat d ∈ x → y.length ≤ 1048576 → F (n + 1) i y = F n (i + 1) (y ++ [x.getD i.toNat d])) : F N 0 [] = some (R x) := by
  have step : ∀ (k n : Nat) (i : Int) (y : List α), 0 ≤ i → i ≤ x.length → (x.length : Int) - i = k → k < n → y = x.take i.toNat → F n i y = some (R x) := by
    intro k
    induction k with
    | zero =>
      intro n i y a0 a1 hd hn hy
      obtain ⟨n, rfl⟩ := succ_fuel hn
      rw [h0 n i y (by omega), hy, List.take_of_length_le (by omega)]
    | succ k ih =>
      intro n i y a0 a1 hd hn hy
      obtain ⟨n, rfl⟩ := succ_fuel hn
      rw [h1 n i y a0 (by omega) (mem_getD x d i a0 (by omega)) (by rw [hy, List.length_take]; omega)]
      refine ih n (i + 1) _ (by omega) (by omega) (by omega) (by omega) ?_
      have e : (i + 1).toNat = i.toNat + 1 := by omega
      have hlt : i.toNat < x.length := by omega
      rw [e, List.take_add_one, List.getElem?_eq_getElem hlt, hy, List.getD_eq_getElem?_getD, List.getElem?_eq_getElem hlt]
      rfl
  exact step x.length N 0 [] (by omega) (by omega) (by omega) (Nat.lt_of_le_of_lt hx (Nat.lt_trans (by omega) big)) rfl
theorem specSenderCopy (a : Int) (x : List MsgL) (hn : x.length ≤ 1048576) (he : ∀ e ∈ x, e.2.2.2.length ≤ 1048576) : f_spec_l2Sender a x = some (a, x) := by
  unfold f_spec_l2Sender
  have c1 := cp_gen (d := ((0 : Int), (0 : Int), false, ([] : List Int))) (F := fun n i y => f_spec_l2Sender.l0 n i a x 0 a [] y) (R := fun y => (0, a, ([] : List MsgL), y)) x hn (fun n i y hi => by simp only [f_spec_l2Sender.l0, decide_eq_false hi, cond_false])
    (fun n i y a0 a1 hm hy => by
      have hk : (x.getD i.toNat (0, 0, false, [])).2.2.2.length ≤ 1048576 := he _ hm
      simp only [f_spec_l2Sender.l0, f_spec_l1Msg, decide_eq_true a0, decide_eq_true a1, cond_true, Bool.and_self, List.length_nil, Nat.zero_add, (blt_iff _ _).2 (show (x.getD i.toNat (0, 0, false, [])).2.2.2.length < 17592186044416 by omega), List.nil_append, Option.bind_some, List.length_singleton, (blt_iff _ _).2 (show y.length + 1 < 2932031007402 by omega), w64 (show -9223372036854775808 ≤ i + 1 by omega) (by omega)])
  rw [c1]
  rfl
theorem implSenderCopy (a : Int) (x : List MsgL) (hn : x.length ≤ 1048576) (he : ∀ e ∈ x, e.2.2.2.length ≤ 1048576) : f_impl_copySender a x = some (a, x) := by
  unfold f_impl_copySender
  have c1 := cp_gen (d := ((0 : Int), (0 : Int), false, ([] : List Int))) (F := fun n i y => f_impl_copySender.l0 n x (x.length : Int) i 0 a [] y) (R := fun y => (0, a, ([] : List MsgL), y)) x hn (fun n i y hi => by simp only [f_impl_copySender.l0, decide_eq_false hi, cond_false])
    (fun n i y a0 a1 hm hy => by
      have hk : (x.getD i.toNat (0, 0, false, [])).2.2.2.length ≤ 1048576 := he _ hm
      simp only [f_impl_copySender.l0, f_impl_copyMsg, f_slices_Clone_int_int, decide_eq_true a0, decide_eq_true a1, cond_true, Bool.and_self, Nat.zero_add, (blt_iff _ _).2 (show (x.getD i.toNat (0, 0, false, [])).2.2.2.length < 17592186044416 by omega), Option.bind_some, List.length_singleton, (blt_iff _ _).2 (show y.length + 1 < 2932031007402 by omega), w64 (show -9223372036854775808 ≤ i + 1 by omega) (by omega)])
  rw [c1]
  rfl
/-- What a right sender's numbers are. -/
theorem senderOk_facts (a : Int) (x : List MsgL) (hn : x.length ≤ 1048576) (he : ∀ e ∈ x, e.2.2.2.length ≤ 1048576) (h : f_spec_SenderOk a x = some true) : 0 ≤ a ∧ a ≤ 100000 ∧ (x.length : Int) ≤ 30 ∧ a + (x.length : Int) ≤ 100000 ∧ x.all tM = true := by
  unfold f_spec_SenderOk at h
  rw [senderS_loop x hn he false a x.length N 0 (by omega) (by omega) (by omega) (lt_N hn)] at h
  simp only [Int.toNat_zero, List.drop_zero, in_rg, Option.bind_some] at h
  cases hall : x.all tM with
  | false => rw [hall] at h; cases h
  | true =>
    rw [hall] at h
    simp only [cond_true, cs] at h
    cases hr : rg a 0 100000 with
    | false => rw [hr] at h; cases h
    | true =>
      unfold rg at hr
      simp only [Bool.and_eq_true, decide_eq_true_eq] at hr
      by_cases h30 : (x.length : Int) ≤ 30
      · rw [decide_eq_true h30, w64 (by omega) (by omega)] at h
        have e : rg a 0 100000 = true := by unfold rg; rw [decide_eq_true hr.1, decide_eq_true hr.2]; rfl
        rw [e] at h
        simp only [cond_true, Option.some.injEq, decide_eq_true_eq] at h
        exact ⟨hr.1, hr.2, h30, h, rfl⟩
      · rw [decide_eq_false h30] at h
        cases h' : rg a 0 100000 <;> rw [h'] at h <;> cases h
def queueB (a : Int) (x : List MsgL) (b : Bool) (m : MsgL) (ok : Bool) : Int × List MsgL × Bool := if b = true ∧ ok = true ∧ (x.length : Int) ≠ 30 ∧ a + (x.length : Int) ≠ 100000 then (a, x ++ [m], true) else (a, x, false)
theorem same_queue (a : Int) (x : List MsgL) (x2 x3 : Int) (x4 : Bool) (x5 : List Int) (hn : x.length ≤ 1048576) (he : ∀ e ∈ x, e.2.2.2.length ≤ 1048576) (h5 : x5.length ≤ 1048576) :
    ∃ b ok, f_spec_SenderOk a x = some b ∧ f_impl_SenderOk a x = some b ∧ f_spec_MsgOk x2 x3 x4 x5 = some ok ∧ f_impl_MsgOk x2 x3 x4 x5 = some ok ∧ f_spec_Queue a x x2 x3 x4 x5 = some (queueB a x b (x2, x3, x4, x5) ok) ∧ f_impl_Queue a x x2 x3 x4 x5 = some (queueB a x b (x2, x3, x4, x5) ok) := by
  obtain ⟨b, h1, h2⟩ := same_senderOk a x hn he
  obtain ⟨ok, k1, k2⟩ := same_msgOk x2 x3 x4 x5 h5
  have hw : b = true → IntKind.wrap .i64 (a + (x.length : Int)) = a + (x.length : Int) := fun hb => by
    subst hb
    obtain ⟨f0, f1, f2, f3, -⟩ := senderOk_facts a x hn he h1
    exact w64 (by omega) (by omega)
  refine ⟨b, ok, h1, h2, k1, k2, ?_, ?_⟩
  · unfold f_spec_Queue queueB
    simp only [specSenderCopy a x hn he, h1, k1, Option.bind_some]
    cases b with
    | false => rw [if_neg (fun h => by cases h.1)]; rfl
    | true =>
      rw [hw rfl]
      cases ok with
      | false => rw [if_neg (fun h => by cases h.2.1)]; rfl
      | true =>
        by_cases g1 : (x.length : Int) = 30
        · rw [decide_eq_true g1, if_neg (fun h => h.2.2.1 g1)]; rfl
        · by_cases g2 : a + (x.length : Int) = 100000
          · rw [decide_eq_false g1, decide_eq_true g2, if_neg (fun h => h.2.2.2 g2)]; rfl
          · rw [decide_eq_false g1, decide_eq_false g2, if_pos ⟨rfl, rfl, g1, g2⟩]
            simp only [Bool.not_true, cond_false, f_spec_l1Msg, List.length_nil, Nat.zero_add, (blt_iff _ _).2 (show x5.length < 17592186044416 by omega), cond_true, List.nil_append, Option.bind_some, List.length_singleton, (blt_iff _ _).2 (show x.length + 1 < 2932031007402 by omega)]
  · unfold f_impl_Queue queueB
    simp only [implSenderCopy a x hn he, h2, k2, Option.bind_some]
    cases b with
    | false => rw [if_neg (fun h => by cases h.1)]; rfl
    | true =>
      rw [hw rfl]
      cases ok with
      | false => rw [if_neg (fun h => by cases h.2.1)]; rfl
      | true =>
        by_cases g1 : (x.length : Int) = 30
        · rw [decide_eq_true g1, if_neg (fun h => h.2.2.1 g1)]; rfl
        · by_cases g2 : a + (x.length : Int) = 100000
          · rw [decide_eq_false g1, decide_eq_true g2, if_neg (fun h => h.2.2.2 g2)]; rfl
          · rw [decide_eq_false g1, decide_eq_false g2, if_pos ⟨rfl, rfl, g1, g2⟩]
            simp only [Bool.not_true, cond_false, f_impl_copyMsg, f_slices_Clone_int_int, Nat.zero_add, (blt_iff _ _).2 (show x5.length < 17592186044416 by omega), cond_true, Option.bind_some, List.length_singleton, (blt_iff _ _).2 (show x.length + 1 < 2932031007402 by omega)]
theorem msgOk_facts (k p : Int) (c : Bool) (w : List Int) (hn : w.length ≤ 1048576) (h : f_spec_MsgOk k p c w = some true) : 1 ≤ k ∧ k ≤ 7 ∧ 0 ≤ p ∧ p ≤ 5 ∧ allW w = true ∧ w.length = (if k = 3 ∨ k = 7 then 4 else 0) := by
  unfold f_spec_MsgOk at h
  simp only [specWords w hn, in_rg, Option.bind_some] at h
  have key : rg k 1 7 = true ∧ rg p 0 5 = true ∧ allW w = true ∧ (w.length : Int) = (if k = 3 ∨ k = 7 then 4 else 0) := by
    by_cases h3 : k = 3
    · subst h3
      rw [show rg 3 1 7 = true from rfl] at h ⊢
      cases hp : rg p 0 5 <;> simp [hp] at h ⊢
      exact ⟨h.1, by omega⟩
    · by_cases h7 : k = 7
      · subst h7
        rw [show rg 7 1 7 = true from rfl] at h ⊢
        cases hp : rg p 0 5 <;> cases c <;> simp [hp] at h ⊢
        exact ⟨h.1, by omega⟩
      · rw [decide_eq_false h3, decide_eq_false h7] at h
        cases hr : rg k 1 7 <;> cases hp : rg p 0 5 <;> cases hk : decide (k = 6) <;> cases c <;> simp [hr, hp, hk, h3, h7] at h ⊢ <;> exact ⟨h.1, h.2⟩
  obtain ⟨k1, k2, k3, k4⟩ := key
  unfold rg at k1 k2
  simp only [Bool.and_eq_true, decide_eq_true_eq] at k1 k2
  refine ⟨k1.1, k1.2, k2.1, k2.2, k3, ?_⟩
  by_cases hk : k = 3 ∨ k = 7
  · rw [if_pos hk] at k4 ⊢; omega
  · rw [if_neg hk] at k4 ⊢; omega
def stAt (p : Int) (e : NodeT) : Int := (e.2.1.getD p.toNat (0, [], false)).1
def cS (p : Int) (e : NodeT) : Int := if stAt p e = 0 then 0 else 1
def cM (p : Int) (e : NodeT) : Int := if stAt p e = 2 then 1 else 0
theorem sumC {α : Type} {W : α → Int} (h : ∀ e, 0 ≤ W e ∧ W e ≤ 1) : ∀ x : List α, 0 ≤ sumW W x ∧ sumW W x ≤ x.length
  | [] => by simp [sumW]
  | a :: x => by have := sumC h x; have := h a; simp only [sumW, List.length_cons]; omega
theorem sumC_le {α : Type} {W V : α → Int} (h : ∀ e, W e ≤ V e) : ∀ x : List α, sumW W x ≤ sumW V x
  | [] => by simp [sumW]
  | a :: x => by have := sumC_le h x; have := h a; simp only [sumW]; omega
theorem cS01 (p : Int) (e : NodeT) : 0 ≤ cS p e ∧ cS p e ≤ 1 := by unfold cS; by_cases h : stAt p e = 0 <;> simp [h]
theorem cM01 (p : Int) (e : NodeT) : 0 ≤ cM p e ∧ cM p e ≤ 1 := by unfold cM; by_cases h : stAt p e = 2 <;> simp [h]
theorem cM_le (p : Int) (e : NodeT) : cM p e ≤ cS p e := by
  unfold cM cS
  by_cases h : stAt p e = 2
  · rw [if_pos h, if_neg (by omega)]; omega
  · rw [if_neg h]; by_cases h : stAt p e = 0 <;> simp [h]
theorem cnt_loop {α : Type} {d : α} {F : Nat → Int → Int → Int → Option (Bool × Int × Int)} {A B : α → Int} (x : List α) (hx : x.length ≤ 1048576) (hA : ∀ e, 0 ≤ A e ∧ A e ≤ 1) (hB : ∀ e, 0 ≤ B e ∧ B e ≤ 1)
    (h0 : ∀ n a b i, ¬ i < (x.length : Int) → F (n + 1) a b i = some (false, a, b))
    (h1 : ∀ n a b i, 0 ≤ i → i < (x.length : Int) → 0 ≤ a → a ≤ i → 0 ≤ b → b ≤ i → F (n + 1) a b i = F n (a + A (x.getD i.toNat d)) (b + B (x.getD i.toNat d)) (i + 1)) : F N 0 0 0 = some (false, sumW A x, sumW B x) := by
  have step : ∀ (k n : Nat) (a b i : Int), 0 ≤ i → i ≤ x.length → (x.length : Int) - i = k → k < n → 0 ≤ a → a ≤ i → 0 ≤ b → b ≤ i → F n a b i = some (false, a + sumW A (x.drop i.toNat), b + sumW B (x.drop i.toNat)) := by
    intro k
    induction k with
    | zero =>
      intro n a b i a0 a1 hd hn _ _ _ _
      obtain ⟨n, rfl⟩ := succ_fuel hn
      rw [h0 n a b i (by omega), List.drop_eq_nil_of_le (by omega)]
      simp [sumW]
    | succ k ih =>
      intro n a b i a0 a1 hd hn c0 c1 d0 d1
      obtain ⟨n, rfl⟩ := succ_fuel hn
      have := hA (x.getD i.toNat d)
      have := hB (x.getD i.toNat d)
      rw [h1 n a b i a0 (by omega) c0 c1 d0 d1, drop_getD x d i a0 (by omega), ih n _ _ (i + 1) (by omega) (by omega) (by omega) (by omega) (by omega) (by omega) (by omega) (by omega)]
      simp only [sumW, Int.add_assoc]
  have := step x.length N 0 0 0 (by omega) (by omega) (by omega) (Nat.lt_of_le_of_lt hx (Nat.lt_trans (by omega) big)) (by omega) (by omega) (by omega) (by omega)
  simpa using this
theorem bit_eq (b : Bool) : f_spec_l1Bit b = some (if b = true then 1 else 0) := by unfold f_spec_l1Bit; cases b <;> rfl
theorem stAt_range {x0 : Int} {x1 : List NodeT} {x2 : List PacketT} (w : WorldFacts x0 x1 x2) (p : Int) (p0 : 0 ≤ p) (p1 : p ≤ 5) (i : Int) (h0 : 0 ≤ i) (h1 : i < (x1.length : Int)) : (0 ≤ stAt p (x1.getD i.toNat (0, [], [], [], [])) ∧ stAt p (x1.getD i.toNat (0, [], [], [], [])) ≤ 2) ∧ p < ((x1.getD i.toNat (0, [], [], [], [])).2.1.length : Int) := by
  have q := worldAt w i h0 h1
  have hl := q.l1
  exact ⟨tF_state _ (q.f _ (mem_getD _ _ p p0 (by omega))), by omega⟩
noncomputable def aloneB (x0 : Int) (x1 : List NodeT) (x2 : List PacketT) (p : Int) : Bool := worldOkB x0 x1 x2 && (rng p 5 && (decide (sumW (cM p) x1 = 0) || decide (sumW (cS p) x1 = 1)))
theorem specAlone (x0 : Int) (x1 : List NodeT) (x2 : List PacketT) (p : Int) (h : WorldK x1 x2) : f_spec_Alone x0 x1 x2 p = some (aloneB x0 x1 x2 p) := by
  unfold f_spec_Alone aloneB
  rw [specWorldOk x0 x1 x2 h, Option.bind_some]
  cases hw : worldOkB x0 x1 x2 with
  | false => rfl
  | true =>
    have w := worldFacts x0 x1 x2 hw
    rw [in_rng]
    cases hp : rng p 5 with
    | false => rfl
    | true =>
      have hp' := hp
      unfold rng at hp'
      simp only [Bool.and_eq_true, decide_eq_true_eq] at hp'
      have e := cnt_loop (d := ((0 : Int), ([] : List FrameT), ([] : List HomeT), ([] : List SenderT), ([] : List Int))) (F := fun n a b i => f_spec_Alone.l0 n p false a b i x0 x1 x2) (A := cS p) (B := cM p) x1 h.l1 (cS01 p) (cM01 p)
        (fun n a b i hi => by have := w.l1; simp only [f_spec_Alone.l0, decide_eq_false (show ¬ i < x0 by omega), cond_false])
        (fun n a b i a0 a1 c0 c1 d0 d1 => by
          have := w.l1
          have := h.l1
          obtain ⟨-, q⟩ := stAt_range w p hp'.1 hp'.2 i a0 a1
          simp only [f_spec_Alone.l0, decide_eq_true (show i < x0 by omega), decide_eq_true a0, decide_eq_true a1, decide_eq_true hp'.1, decide_eq_true q, cond_true, Bool.and_self, bit_eq, Option.bind_some, w64 (show -9223372036854775808 ≤ i + 1 by omega) (by omega)]
          have e1 : (if (!decide (((x1.getD i.toNat (0, [], [], [], [])).2.1.getD p.toNat (0, [], false)).1 = 0)) = true then (1 : Int) else 0) = cS p (x1.getD i.toNat (0, [], [], [], [])) := by
            unfold cS stAt
            by_cases h : ((x1.getD i.toNat (0, [], [], [], [])).2.1.getD p.toNat (0, [], false)).1 = 0 <;> simp [h]
          have e2 : (if decide (((x1.getD i.toNat (0, [], [], [], [])).2.1.getD p.toNat (0, [], false)).1 = 2) = true then (1 : Int) else 0) = cM p (x1.getD i.toNat (0, [], [], [], [])) := by
            unfold cM stAt
            by_cases h : ((x1.getD i.toNat (0, [], [], [], [])).2.1.getD p.toNat (0, [], false)).1 = 2 <;> simp [h]
          rw [e1, e2]
          have := cS01 p (x1.getD i.toNat (0, [], [], [], []))
          have := cM01 p (x1.getD i.toNat (0, [], [], [], []))
          rw [w64 (by omega) (by omega), w64 (by omega) (by omega)])
      simp only [Option.bind_some, Bool.not_true, cond_false, e]
      have h1 := sumC (cM01 p) x1
      have h2 := sumC_le (cM_le p) x1
      by_cases hb : sumW (cM p) x1 = 0
      · simp only [decide_eq_true hb, cond_true, Bool.true_or, Bool.and_self]
      · by_cases hb1 : sumW (cM p) x1 = 1
        · simp only [decide_eq_false hb, decide_eq_true hb1, cond_true, cond_false, Bool.false_or, Bool.true_and]
        · simp only [decide_eq_false hb, decide_eq_false hb1, decide_eq_false (show ¬ sumW (cS p) x1 = 1 by omega), cond_false, Bool.or_self, Bool.and_false]
theorem implAlone_ {x0 : Int} {x1 : List NodeT} {x2 : List PacketT} (h : WorldK x1 x2) (w : WorldFacts x0 x1 x2) (p : Int) (p0 : 0 ≤ p) (p1 : p ≤ 5) : f_impl_alone x0 x1 x2 p = some (decide (sumW (cM p) x1 = 0) || decide (sumW (cS p) x1 = 1)) := by
  unfold f_impl_alone
  have e := cnt_loop (d := ((0 : Int), ([] : List FrameT), ([] : List HomeT), ([] : List SenderT), ([] : List Int))) (F := fun n a b i => f_impl_alone.l0 n p false a b x1 (x1.length : Int) i) (A := cS p) (B := cM p) x1 h.l1 (cS01 p) (cM01 p)
    (fun n a b i hi => by simp only [f_impl_alone.l0, decide_eq_false hi, cond_false])
    (fun n a b i a0 a1 c0 c1 d0 d1 => by
      have := h.l1
      obtain ⟨q0, q⟩ := stAt_range w p p0 p1 i a0 a1
      simp only [f_impl_alone.l0, decide_eq_true a0, decide_eq_true a1, decide_eq_true p0, decide_eq_true q, cond_true, Bool.and_self, Option.bind_some, w64 (show -9223372036854775808 ≤ i + 1 by omega) (by omega), w64 (show -9223372036854775808 ≤ a + 1 by omega) (by omega), w64 (show -9223372036854775808 ≤ b + 1 by omega) (by omega)]
      change 0 ≤ stAt p _ ∧ stAt p _ ≤ 2 at q0
      unfold cS cM
      have hs : ((x1.getD i.toNat (0, [], [], [], [])).2.1.getD p.toNat (0, [], false)).1 = stAt p (x1.getD i.toNat (0, [], [], [], [])) := rfl
      rw [hs]
      by_cases g2 : stAt p (x1.getD i.toNat (0, [], [], [], [])) = 2
      · simp only [decide_eq_true g2, cond_true, if_pos g2, if_neg (show ¬ stAt p (x1.getD i.toNat (0, [], [], [], [])) = 0 by omega)]
      · by_cases g1 : stAt p (x1.getD i.toNat (0, [], [], [], [])) = 1
        · simp only [decide_eq_false g2, decide_eq_true g1, cond_true, cond_false, if_neg g2, if_neg (show ¬ stAt p (x1.getD i.toNat (0, [], [], [], [])) = 0 by omega), Int.add_zero]
        · simp only [decide_eq_false g2, decide_eq_false g1, cond_false, if_neg g2, if_pos (show stAt p (x1.getD i.toNat (0, [], [], [], [])) = 0 by omega), Int.add_zero])
  simp only [e, Option.bind_some]
  by_cases hb : sumW (cM p) x1 = 0
  · simp only [decide_eq_true hb, cond_true, Bool.true_or]
  · simp only [decide_eq_false hb, cond_false, Bool.false_or]
theorem implAlone (x0 : Int) (x1 : List NodeT) (x2 : List PacketT) (p : Int) (h : WorldK x1 x2) : f_impl_Alone x0 x1 x2 p = some (aloneB x0 x1 x2 p) := by
  unfold f_impl_Alone aloneB f_impl_isPage
  rw [implWorldOk x0 x1 x2 h, Option.bind_some]
  cases hw : worldOkB x0 x1 x2 with
  | false => rfl
  | true =>
    have w := worldFacts x0 x1 x2 hw
    rw [from_rng]
    cases hp : rng p 5 with
    | false => rfl
    | true =>
      unfold rng at hp
      simp only [Bool.and_eq_true, decide_eq_true_eq] at hp
      simp only [Option.bind_some, cond_true, implAlone_ h w p hp.1 hp.2, Bool.true_and]
def fltF {α : Type} (q : Int → Bool) : Int → List α → List α
  | _, [] => []
  | i, a :: x => if q i = true then a :: fltF q (i + 1) x else fltF q (i + 1) x
theorem fltF_sub {α : Type} {q : Int → Bool} : ∀ (x : List α) (i : Int), (∀ e ∈ fltF q i x, e ∈ x) ∧ (fltF q i x).length ≤ x.length
  | [], _ => ⟨fun e h => (by cases h), Nat.le_refl _⟩
  | a :: x, i => by
    obtain ⟨h1, h2⟩ := fltF_sub (q := q) x (i + 1)
    unfold fltF
    by_cases h : q i = true
    · rw [if_pos h]
      refine ⟨fun e he => ?_, by simp only [List.length_cons]; omega⟩
      rcases List.mem_cons.1 he with h | h
      · rw [h]; exact .head _
      · exact .tail _ (h1 e h)
    · rw [if_neg h]
      exact ⟨fun e he => .tail _ (h1 e he), by simp only [List.length_cons]; omega⟩
theorem flt_gen {α τ : Type} {d : α} {F : Nat → Int → List α → Option τ} {R : List α → τ} {q : Int → Bool} (x : List α) (hx : x.length ≤ 1048576) (h0 : ∀ n i y, ¬ i < (x.length : Int) → F (n + 1) i y = some (R y))
    (h1 : ∀ n i y, 0 ≤ i → i < (x.length : Int) → x.getD i.toNat d ∈ x → y.length ≤ 1048576 → F (n + 1) i y = bif q i then F n (i + 1) (y ++ [x.getD i.toNat d]) else F n (i + 1) y) : F N 0 [] = some (R (fltF q 0 x)) := by
  have step : ∀ (k n : Nat) (i : Int) (y : List α), 0 ≤ i → i ≤ x.length → (x.length : Int) - i = k → k < n → (y.length : Int) ≤ i → F n i y = some (R (y ++ fltF q i (x.drop i.toNat))) := by
    intro k
    induction k with
    | zero =>
      intro n i y a0 a1 hd hn hy
      obtain ⟨n, rfl⟩ := succ_fuel hn
      rw [h0 n i y (by omega), List.drop_eq_nil_of_le (by omega)]
      simp [fltF]
    | succ k ih =>
      intro n i y a0 a1 hd hn hy
      obtain ⟨n, rfl⟩ := succ_fuel hn
      rw [h1 n i y a0 (by omega) (mem_getD x d i a0 (by omega)) (by omega), drop_getD x d i a0 (by omega)]
      unfold fltF
      by_cases h : q i = true
      · rw [h, cond_true, if_pos rfl, ih n (i + 1) _ (by omega) (by omega) (by omega) (by omega) (by simp only [List.length_append, List.length_singleton]; omega), List.append_assoc]
        rfl
      · rw [Bool.not_eq_true] at h
        rw [h, cond_false, if_neg (by simp), ih n (i + 1) y (by omega) (by omega) (by omega) (by omega) (by omega)]
  have := step x.length N 0 [] (by omega) (by omega) (by omega) (Nat.lt_of_le_of_lt hx (Nat.lt_trans (by omega) big)) (by simp)
  simpa using this
def sndAt (x1 : List NodeT) (i j : Int) : SenderT := (x1.getD i.toNat (0, [], [], [], [])).2.2.2.1.getD j.toNat (0, [])
def rcvAt (x1 : List NodeT) (i j : Int) : Int := (x1.getD i.toNat (0, [], [], [], [])).2.2.2.2.getD j.toNat 0
def comeL (x1 : List NodeT) (i j : Int) : List MsgL := fltF (fun n => decide (rcvAt x1 j i ≤ IntKind.wrap .i64 ((sndAt x1 i j).1 + n))) 0 (sndAt x1 i j).2
noncomputable def comingB (x0 : Int) (x1 : List NodeT) (x2 : List PacketT) (i j : Int) : List MsgL := bif worldOkB x0 x1 x2 && (rng i (x0 - 1) && rng j (x0 - 1)) then comeL x1 i j else []
theorem sndAt_ok {x0 : Int} {x1 : List NodeT} {x2 : List PacketT} (w : WorldFacts x0 x1 x2) (h : WorldK x1 x2) (i j : Int) (i0 : 0 ≤ i) (i1 : i ≤ x0 - 1) (j0 : 0 ≤ j) (j1 : j ≤ x0 - 1) : okSender (sndAt x1 i j) := by
  have hl := w.l1
  have q := worldAt w i i0 (by omega)
  have hk := h.e1 _ (mem_getD x1 (0, [], [], [], []) i i0 (by omega))
  have l3 := q.l3
  exact NodeK.e3 hk _ (mem_getD _ _ j j0 (by omega))
theorem comeL_ok {x0 : Int} {x1 : List NodeT} {x2 : List PacketT} (w : WorldFacts x0 x1 x2) (h : WorldK x1 x2) (i j : Int) (i0 : 0 ≤ i) (i1 : i ≤ x0 - 1) (j0 : 0 ≤ j) (j1 : j ≤ x0 - 1) : (comeL x1 i j).length ≤ 1048576 ∧ ∀ e ∈ comeL x1 i j, e.2.2.2.length ≤ 1048576 := by
  obtain ⟨h1, h2⟩ := sndAt_ok w h i j i0 i1 j0 j1
  obtain ⟨k1, k2⟩ := fltF_sub (q := fun n => decide (rcvAt x1 j i ≤ IntKind.wrap .i64 ((sndAt x1 i j).1 + n))) (sndAt x1 i j).2 0
  exact ⟨Nat.le_trans k2 h1, fun e he => h2 e (k1 e he)⟩
theorem specL7 {x0 : Int} {x1 : List NodeT} {x2 : List PacketT} (w : WorldFacts x0 x1 x2) (h : WorldK x1 x2) (i j : Int) (i0 : 0 ≤ i) (i1 : i ≤ x0 - 1) (j0 : 0 ≤ j) (j1 : j ≤ x0 - 1) : f_spec_l7Coming x0 x1 x2 i j = some (comeL x1 i j) := by
  unfold f_spec_l7Coming
  have hl := w.l1
  have qi := worldAt w i i0 (by omega)
  have qj := worldAt w j j0 (by omega)
  have l3 := qi.l3
  have l4 := qj.l4
  obtain ⟨h1, h2⟩ := sndAt_ok w h i j i0 i1 j0 j1
  have e := flt_gen (d := ((0 : Int), (0 : Int), false, ([] : List Int))) (F := fun n k y => f_spec_l7Coming.l0 n (rcvAt x1 j i) k y (sndAt x1 i j).1 (sndAt x1 i j).2) (R := fun y => y) (q := fun n => decide (rcvAt x1 j i ≤ IntKind.wrap .i64 ((sndAt x1 i j).1 + n))) (sndAt x1 i j).2 h1
    (fun n k y hk => by simp only [f_spec_l7Coming.l0, decide_eq_false hk, cond_false])
    (fun n k y a0 a1 m hy => by
      have hm : ((sndAt x1 i j).2.getD k.toNat (0, 0, false, [])).2.2.2.length ≤ 1048576 := h2 _ m
      simp only [f_spec_l7Coming.l0, f_spec_l1Msg, decide_eq_true a0, decide_eq_true a1, cond_true, Bool.and_self, List.length_nil, Nat.zero_add, (blt_iff _ _).2 (show ((sndAt x1 i j).2.getD k.toNat (0, 0, false, [])).2.2.2.length < 17592186044416 by omega), List.nil_append, Option.bind_some, List.length_singleton, (blt_iff _ _).2 (show y.length + 1 < 2932031007402 by omega), w64 (show -9223372036854775808 ≤ k + 1 by omega) (by omega)])
  simp only [decide_eq_true i0, decide_eq_true j0, decide_eq_true (show i < (x1.length : Int) by omega), decide_eq_true (show j < (x1.length : Int) by omega), decide_eq_true (show j < ((x1.getD i.toNat (0, [], [], [], [])).2.2.2.1.length : Int) by omega), decide_eq_true (show i < ((x1.getD j.toNat (0, [], [], [], [])).2.2.2.2.length : Int) by omega), cond_true, Bool.and_self]
  change (f_spec_l7Coming.l0 N (rcvAt x1 j i) 0 [] (sndAt x1 i j).1 (sndAt x1 i j).2).bind _ = _
  rw [e]
  rfl
theorem implL7 {x0 : Int} {x1 : List NodeT} {x2 : List PacketT} (w : WorldFacts x0 x1 x2) (h : WorldK x1 x2) (i j : Int) (i0 : 0 ≤ i) (i1 : i ≤ x0 - 1) (j0 : 0 ≤ j) (j1 : j ≤ x0 - 1) : f_impl_coming x0 x1 x2 i j = some (comeL x1 i j) := by
  unfold f_impl_coming
  have hl := w.l1
  have qi := worldAt w i i0 (by omega)
  have qj := worldAt w j j0 (by omega)
  have l3 := qi.l3
  have l4 := qj.l4
  obtain ⟨h1, h2⟩ := sndAt_ok w h i j i0 i1 j0 j1
  have e := flt_gen (d := ((0 : Int), (0 : Int), false, ([] : List Int))) (F := fun n k y => f_impl_coming.l0 n i j (sndAt x1 i j).2 ((sndAt x1 i j).2.length : Int) k x0 x1 x2 (sndAt x1 i j).1 (sndAt x1 i j).2 y) (R := fun y => y) (q := fun n => decide (rcvAt x1 j i ≤ IntKind.wrap .i64 ((sndAt x1 i j).1 + n))) (sndAt x1 i j).2 h1
    (fun n k y hk => by simp only [f_impl_coming.l0, decide_eq_false hk, cond_false])
    (fun n k y a0 a1 m hy => by
      have hm : ((sndAt x1 i j).2.getD k.toNat (0, 0, false, [])).2.2.2.length ≤ 1048576 := h2 _ m
      have hr : (x1.getD j.toNat (0, [], [], [], [])).2.2.2.2.getD i.toNat 0 = rcvAt x1 j i := rfl
      simp only [f_impl_coming.l0, f_impl_copyMsg, f_slices_Clone_int_int, hr, decide_eq_true i0, decide_eq_true j0, decide_eq_true (show j < (x1.length : Int) by omega), decide_eq_true (show i < ((x1.getD j.toNat (0, [], [], [], [])).2.2.2.2.length : Int) by omega), decide_eq_true a0, decide_eq_true a1, cond_true, Bool.and_self, List.length_nil, Nat.zero_add, (blt_iff _ _).2 (show ((sndAt x1 i j).2.getD k.toNat (0, 0, false, [])).2.2.2.length < 17592186044416 by omega), List.nil_append, Option.bind_some, List.length_singleton, (blt_iff _ _).2 (show y.length + 1 < 2932031007402 by omega), w64 (show -9223372036854775808 ≤ k + 1 by omega) (by omega)])
  simp only [decide_eq_true i0, decide_eq_true j0, decide_eq_true (show i < (x1.length : Int) by omega), decide_eq_true (show j < (x1.length : Int) by omega), decide_eq_true (show j < ((x1.getD i.toNat (0, [], [], [], [])).2.2.2.1.length : Int) by omega), cond_true, Bool.and_self]
  change (f_impl_coming.l0 N i j (sndAt x1 i j).2 ((sndAt x1 i j).2.length : Int) 0 x0 x1 x2 (sndAt x1 i j).1 (sndAt x1 i j).2 []).bind _ = _
  rw [e]
  rfl
theorem specComing (x0 : Int) (x1 : List NodeT) (x2 : List PacketT) (i j : Int) (h : WorldK x1 x2) : f_spec_Coming x0 x1 x2 i j = some (comingB x0 x1 x2 i j) := by
  unfold f_spec_Coming comingB
  rw [specWorldOk x0 x1 x2 h, Option.bind_some]
  cases hw : worldOkB x0 x1 x2 with
  | false => rfl
  | true =>
    have w := worldFacts x0 x1 x2 hw
    have hk := w.k
    simp only [in_rng, w64 (show -9223372036854775808 ≤ x0 - 1 by omega) (by omega), Option.bind_some]
    cases hi : rng i (x0 - 1) with
    | false => rfl
    | true =>
      cases hj : rng j (x0 - 1) with
      | false => rfl
      | true =>
        unfold rng at hi hj
        simp only [Bool.and_eq_true, decide_eq_true_eq] at hi hj
        simp only [Bool.not_true, cond_false, specL7 w h i j hi.1 hi.2 hj.1 hj.2, Option.bind_some, Bool.and_self, cond_true]
theorem implComing (x0 : Int) (x1 : List NodeT) (x2 : List PacketT) (i j : Int) (h : WorldK x1 x2) : f_impl_Coming x0 x1 x2 i j = some (comingB x0 x1 x2 i j) := by
  unfold f_impl_Coming comingB f_impl_isOf
  rw [implWorldOk x0 x1 x2 h, Option.bind_some]
  cases hw : worldOkB x0 x1 x2 with
  | false => rfl
  | true =>
    have w := worldFacts x0 x1 x2 hw
    have hk := w.k
    have h4 : f_impl_from x0 1 4 = some true := by unfold f_impl_from; simp only [decide_eq_true hk.1, decide_eq_true hk.2, cond_true]
    simp only [h4, from_rng, w64 (show -9223372036854775808 ≤ x0 - 1 by omega) (by omega), Option.bind_some, cond_true]
    cases hi : rng i (x0 - 1) with
    | false => rfl
    | true =>
      cases hj : rng j (x0 - 1) with
      | false => rfl
      | true =>
        unfold rng at hi hj
        simp only [Bool.and_eq_true, decide_eq_true_eq] at hi hj
        simp only [Bool.not_true, cond_false, implL7 w h i j hi.1 hi.2 hj.1 hj.2, Option.bind_some, Bool.and_self, cond_true]
theorem find_loop {α β : Type} {d : α} {F : Nat → Int → Option ((Int × List α) ⊕ β)} {q : α → Bool} {b : β} (x : List α) (hx : x.length ≤ 1048576) (h0 : ∀ n i, ¬ i < (x.length : Int) → F (n + 1) i = some (.inr b))
    (h1 : ∀ n i, 0 ≤ i → i < (x.length : Int) → F (n + 1) i = bif q (x.getD i.toNat d) then some (.inl (i, x)) else F n (i + 1)) : (x.find? q = none ∧ F N 0 = some (.inr b)) ∨ ∃ i, x.find? q = some (x.getD i.toNat d) ∧ F N 0 = some (.inl (i, x)) := by
  have step : ∀ (k n : Nat) (i : Int), 0 ≤ i → i ≤ x.length → (x.length : Int) - i = k → k < n → ((x.drop i.toNat).find? q = none ∧ F n i = some (.inr b)) ∨ ∃ j, (x.drop i.toNat).find? q = some (x.getD j.toNat d) ∧ F n i = some (.inl (j, x)) := by
    intro k
    induction k with
    | zero =>
      intro n i a0 a1 hd hn
      obtain ⟨n, rfl⟩ := succ_fuel hn
      exact .inl ⟨by rw [List.drop_eq_nil_of_le (by omega)]; rfl, h0 n i (by omega)⟩
    | succ k ih =>
      intro n i a0 a1 hd hn
      obtain ⟨n, rfl⟩ := succ_fuel hn
      rw [h1 n i a0 (by omega), drop_getD x d i a0 (by omega), List.find?_cons]
      cases q (x.getD i.toNat d) with
      | true => exact .inr ⟨i, rfl, rfl⟩
      | false => exact ih n (i + 1) (by omega) (by omega) (by omega) (by omega)
  have := step x.length N 0 (by omega) (by omega) (by omega) (Nat.lt_of_le_of_lt hx (Nat.lt_trans (by omega) big))
  simpa using this
def qM (k p : Int) (m : MsgL) : Bool := decide (m.1 = k) && (decide (m.2.1 = p) && (m.2.2.1 || decide (k = 7)))
def wordsOf (o : Option MsgL) : List Int := match o with
  | some m => m.2.2.2
  | none => []
def lastW (q : MsgL → Bool) : List MsgL → List Int → List Int
  | [], a => a
  | m :: x, a => lastW q x (if q m = true then m.2.2.2 else a)
theorem lastW_append (q : MsgL → Bool) : ∀ (x y : List MsgL) (a : List Int), lastW q (x ++ y) a = lastW q y (lastW q x a)
  | [], y, a => rfl
  | m :: x, y, a => by simp only [List.cons_append, lastW, lastW_append q x y]
theorem lastW_rev (q : MsgL → Bool) : ∀ x : List MsgL, lastW q x.reverse [] = wordsOf (x.find? q)
  | [] => rfl
  | m :: x => by
    rw [List.reverse_cons, lastW_append, lastW_rev q x, List.find?_cons]
    simp only [lastW]
    cases h : q m with
    | true => simp only [if_true]; rfl
    | false => simp only [Bool.false_eq_true, if_false]
theorem specLast (x : List MsgL) (hx : x.length ≤ 1048576) (he : ∀ e ∈ x, e.2.2.2.length ≤ 1048576) (k p : Int) : f_spec_l7Last x k p = some (wordsOf (x.reverse.find? (qM k p))) := by
  have step : ∀ (r n : Nat) (i : Int) (a : List Int), 0 ≤ i → i ≤ x.length → (x.length : Int) - i = r → r < n → f_spec_l7Last.l0 n x k p i a = some (lastW (qM k p) (x.drop i.toNat) a) := by
    intro r
    induction r with
    | zero =>
      intro n i a a0 a1 hd hn
      obtain ⟨n, rfl⟩ := succ_fuel hn
      simp only [f_spec_l7Last.l0, decide_eq_false (show ¬ i < (x.length : Int) by omega), cond_false, List.drop_eq_nil_of_le (show x.length ≤ i.toNat by omega), lastW]
    | succ r ih =>
      intro n i a a0 a1 hd hn
      obtain ⟨n, rfl⟩ := succ_fuel hn
      have hm : (x.getD i.toNat (0, 0, false, [])).2.2.2.length ≤ 1048576 := he _ (mem_getD x _ i a0 (by omega))
      rw [drop_getD x (0, 0, false, []) i a0 (by omega)]
      simp only [f_spec_l7Last.l0, decide_eq_true (show i < (x.length : Int) by omega), decide_eq_true a0, cond_true, Bool.and_self, List.length_nil, Nat.zero_add, (blt_iff _ _).2 (show (x.getD i.toNat (0, 0, false, [])).2.2.2.length < 17592186044416 by omega), List.nil_append, Option.bind_some, w64 (show -9223372036854775808 ≤ i + 1 by omega) (by omega), ih n (i + 1) _ (by omega) (by omega) (by omega) (by omega), lastW]
      unfold qM
      cases decide ((x.getD i.toNat (0, 0, false, [])).1 = k) with
      | false => simp only [cond_false, Bool.false_and, Bool.false_eq_true, if_false]
      | true =>
        cases decide ((x.getD i.toNat (0, 0, false, [])).2.1 = p) with
        | false => simp only [cond_true, cond_false, Bool.false_and, Bool.and_false, Bool.false_eq_true, if_false]
        | true =>
          cases (x.getD i.toNat (0, 0, false, [])).2.2.1 with
          | true => simp only [cond_true, Bool.true_or, Bool.and_self, if_true]
          | false =>
            cases decide (k = 7) with
            | true => simp only [cond_true, cond_false, Bool.or_true, Bool.and_self, if_true]
            | false => simp only [cond_true, cond_false, Bool.or_self, Bool.and_false, Bool.false_eq_true, if_false]
  unfold f_spec_l7Last
  rw [step x.length N 0 [] (by omega) (by omega) (by omega) (Nat.lt_of_le_of_lt hx (Nat.lt_trans (by omega) big)), Option.bind_some, ← lastW_rev, List.reverse_reverse]
  rfl
def homeAt (x1 : List NodeT) (i p : Int) : HomeT := (x1.getD i.toNat (0, [], [], [], [])).2.2.1.getD p.toNat ([], 0, [], false, 0, false, 0, [])
def frameAt (x1 : List NodeT) (i p : Int) : FrameT := (x1.getD i.toNat (0, [], [], [], [])).2.1.getD p.toNat (0, [], false)
def truthL (x0 : Int) (x1 : List NodeT) (p : Int) : List Int :=
  if (homeAt x1 (Int.tmod p x0) p).2.1 < 0 then (homeAt x1 (Int.tmod p x0) p).1 else
  if (frameAt x1 (homeAt x1 (Int.tmod p x0) p).2.1 p).1 = 2 then (frameAt x1 (homeAt x1 (Int.tmod p x0) p).2.1 p).2.1 else
  match (comeL x1 (Int.tmod p x0) (homeAt x1 (Int.tmod p x0) p).2.1).reverse.find? (qM 3 p) with
  | some m => m.2.2.2
  | none => wordsOf ((comeL x1 (homeAt x1 (Int.tmod p x0) p).2.1 (Int.tmod p x0)).reverse.find? (qM 7 p))
structure TruthFacts (x0 : Int) (x1 : List NodeT) (p : Int) : Prop where
  k : ¬ x0 = 0
  t0 : 0 ≤ Int.tmod p x0
  t1 : Int.tmod p x0 < (x1.length : Int)
  t2 : Int.tmod p x0 ≤ x0 - 1
  hl : p < ((x1.getD (Int.tmod p x0).toNat (0, [], [], [], [])).2.2.1.length : Int)
  o1 : (homeAt x1 (Int.tmod p x0) p).2.1 ≤ x0 - 1
  hb : (homeAt x1 (Int.tmod p x0) p).1.length ≤ 1048576
theorem truthFacts {x0 : Int} {x1 : List NodeT} {x2 : List PacketT} (h : WorldK x1 x2) (w : WorldFacts x0 x1 x2) (p : Int) (p0 : 0 ≤ p) (p1 : p ≤ 5) : TruthFacts x0 x1 p := by
  have hk := w.k
  have hl := w.l1
  have t0 : 0 ≤ Int.tmod p x0 := Int.tmod_nonneg x0 p0
  have t1 : Int.tmod p x0 < x0 := Int.tmod_lt_of_pos p (by omega)
  have q := worldAt w _ t0 (show Int.tmod p x0 < (x1.length : Int) by omega)
  have ql := q.l2
  have m := mem_getD (x1.getD (Int.tmod p x0).toNat (0, [], [], [], [])).2.2.1 ([], 0, [], false, 0, false, 0, []) p p0 (by omega)
  have qh := q.h _ m
  have kh := (h.e1 _ (mem_getD x1 (0, [], [], [], []) _ t0 (by omega))).e2 _ m
  unfold tH homeOkB rng2 at qh
  simp only [Bool.and_eq_true, decide_eq_true_eq] at qh
  exact ⟨by omega, t0, by omega, by omega, by omega, by show _ ≤ _; unfold homeAt; omega, kh.g0⟩
theorem frameAt_ok {x0 : Int} {x1 : List NodeT} {x2 : List PacketT} (h : WorldK x1 x2) (w : WorldFacts x0 x1 x2) (i p : Int) (i0 : 0 ≤ i) (i1 : i < (x1.length : Int)) (p0 : 0 ≤ p) (p1 : p ≤ 5) : p < ((x1.getD i.toNat (0, [], [], [], [])).2.1.length : Int) ∧ okFrame (frameAt x1 i p) ∧ tF (frameAt x1 i p) = true := by
  have q := worldAt w i i0 i1
  have ql := q.l1
  have m := mem_getD (x1.getD i.toNat (0, [], [], [], [])).2.1 (0, [], false) p p0 (by omega)
  exact ⟨by omega, (h.e1 _ (mem_getD x1 (0, [], [], [], []) i i0 i1)).e1 _ m, q.f _ m⟩
theorem come_words {x0 : Int} {x1 : List NodeT} {x2 : List PacketT} (h : WorldK x1 x2) (w : WorldFacts x0 x1 x2) (i j : Int) (i0 : 0 ≤ i) (i1 : i ≤ x0 - 1) (j0 : 0 ≤ j) (j1 : j ≤ x0 - 1) : ∀ m ∈ comeL x1 i j, m.1 = 3 ∨ m.1 = 7 → m.2.2.2.length = 4 := by
  intro m hm h37
  have hl := w.l1
  have hs := sndAt_ok w h i j i0 i1 j0 j1
  have hm' := (fltF_sub (q := fun n => decide (rcvAt x1 j i ≤ IntKind.wrap .i64 ((sndAt x1 i j).1 + n))) (sndAt x1 i j).2 0).1 m hm
  have q := worldAt w i i0 (by omega)
  have ql := q.l3
  have ts := q.s _ (mem_getD (x1.getD i.toNat (0, [], [], [], [])).2.2.2.1 (0, []) j j0 (by omega))
  have so := (tS_eq _ hs).1
  have ts : tS (sndAt x1 i j) = true := ts
  rw [ts] at so
  obtain ⟨-, -, -, -, ha⟩ := senderOk_facts _ _ hs.1 hs.2 so
  have hk := hs.2 m hm'
  have tm := (tM_eq m hk).1
  rw [List.all_eq_true.1 ha m hm'] at tm
  have := (msgOk_facts _ _ _ _ hk tm).2.2.2.2.2
  rw [if_pos h37] at this
  exact this
theorem qM_kind {k p : Int} {m : MsgL} (h : qM k p m = true) : m.1 = k := by
  unfold qM at h
  simp only [Bool.and_eq_true, decide_eq_true_eq] at h
  exact h.1
theorem specTruth_ {x0 : Int} {x1 : List NodeT} {x2 : List PacketT} (h : WorldK x1 x2) (w : WorldFacts x0 x1 x2) (p : Int) (p0 : 0 ≤ p) (p1 : p ≤ 5) : f_spec_l7Truth x0 x1 x2 p = some (truthL x0 x1 p) ∧ (truthL x0 x1 p).length ≤ 1048576 := by
  have f := truthFacts h w p p0 p1
  have hl := w.l1
  have hb := f.hb
  have o1 := f.o1
  unfold f_spec_l7Truth truthL
  simp only [decide_eq_false f.k, cond_false, decide_eq_true f.t0, decide_eq_true f.t1, decide_eq_true p0, decide_eq_true f.hl, Bool.and_self, cond_true]
  have e1 : (x1.getD (Int.tmod p x0).toNat (0, [], [], [], [])).2.2.1.getD p.toNat ([], 0, [], false, 0, false, 0, []) = homeAt x1 (Int.tmod p x0) p := rfl
  rw [e1]
  by_cases h0 : (homeAt x1 (Int.tmod p x0) p).2.1 < 0
  · simp only [decide_eq_true h0, cond_true, if_pos h0, List.length_nil, Nat.zero_add, (blt_iff _ _).2 (show (homeAt x1 (Int.tmod p x0) p).1.length < 17592186044416 by omega), List.nil_append, Option.bind_some]
    exact ⟨trivial, hb⟩
  · have fa := frameAt_ok h w (homeAt x1 (Int.tmod p x0) p).2.1 p (by omega) (by omega) p0 p1
    have e2 : (x1.getD (homeAt x1 (Int.tmod p x0) p).2.1.toNat (0, [], [], [], [])).2.1.getD p.toNat (0, [], false) = frameAt x1 (homeAt x1 (Int.tmod p x0) p).2.1 p := rfl
    have fk : (frameAt x1 (homeAt x1 (Int.tmod p x0) p).2.1 p).2.1.length ≤ 1048576 := fa.2.1
    simp only [decide_eq_false h0, cond_false, if_neg h0, decide_eq_true (show 0 ≤ (homeAt x1 (Int.tmod p x0) p).2.1 by omega), decide_eq_true (show (homeAt x1 (Int.tmod p x0) p).2.1 < (x1.length : Int) by omega), decide_eq_true fa.1, Bool.and_self, cond_true, e2]
    by_cases h2 : (frameAt x1 (homeAt x1 (Int.tmod p x0) p).2.1 p).1 = 2
    · simp only [decide_eq_true h2, cond_true, if_pos h2, List.length_nil, Nat.zero_add, (blt_iff _ _).2 (show (frameAt x1 (homeAt x1 (Int.tmod p x0) p).2.1 p).2.1.length < 17592186044416 by omega), List.nil_append, Option.bind_some]
      exact ⟨trivial, fk⟩
    · have c1 := comeL_ok w h (Int.tmod p x0) (homeAt x1 (Int.tmod p x0) p).2.1 f.t0 f.t2 (by omega) o1
      have c2 := comeL_ok w h (homeAt x1 (Int.tmod p x0) p).2.1 (Int.tmod p x0) (by omega) o1 f.t0 f.t2
      simp only [decide_eq_false h2, cond_false, if_neg h2, specL7 w h (Int.tmod p x0) (homeAt x1 (Int.tmod p x0) p).2.1 f.t0 f.t2 (by omega) o1, specL7 w h (homeAt x1 (Int.tmod p x0) p).2.1 (Int.tmod p x0) (by omega) o1 f.t0 f.t2, Option.bind_some, specLast _ c1.1 c1.2, specLast _ c2.1 c2.2]
      cases hf : (comeL x1 (Int.tmod p x0) (homeAt x1 (Int.tmod p x0) p).2.1).reverse.find? (qM 3 p) with
      | some m =>
        have hm : m ∈ comeL x1 (Int.tmod p x0) (homeAt x1 (Int.tmod p x0) p).2.1 := List.mem_reverse.1 (List.mem_of_find?_eq_some hf)
        have hw := come_words h w _ _ f.t0 f.t2 (by omega) o1 m hm (.inl (qM_kind (List.find?_some hf)))
        simp only [wordsOf, hw, decide_eq_true (show (0 : Int) < ((4 : Nat) : Int) by omega), cond_true]
        exact ⟨trivial, by omega⟩
      | none =>
        simp only [wordsOf, List.length_nil, decide_eq_false (show ¬ (0 : Int) < ((0 : Nat) : Int) by omega), cond_false]
        refine ⟨rfl, ?_⟩
        cases hg : (comeL x1 (homeAt x1 (Int.tmod p x0) p).2.1 (Int.tmod p x0)).reverse.find? (qM 7 p) with
        | some m => exact c2.2 m (List.mem_reverse.1 (List.mem_of_find?_eq_some hg))
        | none => exact Nat.zero_le _
theorem implTruth_ {x0 : Int} {x1 : List NodeT} {x2 : List PacketT} (h : WorldK x1 x2) (w : WorldFacts x0 x1 x2) (p : Int) (p0 : 0 ≤ p) (p1 : p ≤ 5) : f_impl_truth x0 x1 x2 p = some (truthL x0 x1 p) := by
  have f := truthFacts h w p p0 p1
  have hl := w.l1
  have hb := f.hb
  have o1 := f.o1
  unfold f_impl_truth truthL
  simp only [decide_eq_false f.k, cond_false, decide_eq_true f.t0, decide_eq_true f.t1, decide_eq_true p0, decide_eq_true f.hl, Bool.and_self, cond_true]
  have e1 : (x1.getD (Int.tmod p x0).toNat (0, [], [], [], [])).2.2.1.getD p.toNat ([], 0, [], false, 0, false, 0, []) = homeAt x1 (Int.tmod p x0) p := rfl
  rw [e1]
  by_cases h0 : (homeAt x1 (Int.tmod p x0) p).2.1 < 0
  · simp only [decide_eq_true h0, cond_true, if_pos h0, f_slices_Clone_int_int, Nat.zero_add, (blt_iff _ _).2 (show (homeAt x1 (Int.tmod p x0) p).1.length < 17592186044416 by omega), Option.bind_some]
  · have fa := frameAt_ok h w (homeAt x1 (Int.tmod p x0) p).2.1 p (by omega) (by omega) p0 p1
    have e2 : (x1.getD (homeAt x1 (Int.tmod p x0) p).2.1.toNat (0, [], [], [], [])).2.1.getD p.toNat (0, [], false) = frameAt x1 (homeAt x1 (Int.tmod p x0) p).2.1 p := rfl
    have fk : (frameAt x1 (homeAt x1 (Int.tmod p x0) p).2.1 p).2.1.length ≤ 1048576 := fa.2.1
    simp only [decide_eq_false h0, cond_false, if_neg h0, decide_eq_true (show 0 ≤ (homeAt x1 (Int.tmod p x0) p).2.1 by omega), decide_eq_true (show (homeAt x1 (Int.tmod p x0) p).2.1 < (x1.length : Int) by omega), decide_eq_true fa.1, Bool.and_self, cond_true, e2]
    by_cases h2 : (frameAt x1 (homeAt x1 (Int.tmod p x0) p).2.1 p).1 = 2
    · simp only [decide_eq_true h2, cond_true, if_pos h2, f_slices_Clone_int_int, Nat.zero_add, (blt_iff _ _).2 (show (frameAt x1 (homeAt x1 (Int.tmod p x0) p).2.1 p).2.1.length < 17592186044416 by omega), Option.bind_some]
    · have c1 := comeL_ok w h (Int.tmod p x0) (homeAt x1 (Int.tmod p x0) p).2.1 f.t0 f.t2 (by omega) o1
      have c2 := comeL_ok w h (homeAt x1 (Int.tmod p x0) p).2.1 (Int.tmod p x0) (by omega) o1 f.t0 f.t2
      have r1 : f_slices_Reverse_impl_Msg_impl_Msg (comeL x1 (Int.tmod p x0) (homeAt x1 (Int.tmod p x0) p).2.1) = some (comeL x1 (Int.tmod p x0) (homeAt x1 (Int.tmod p x0) p).2.1).reverse := by
        unfold f_slices_Reverse_impl_Msg_impl_Msg; rw [Nat.ble_eq_true_of_le (by omega)]; rfl
      have r2 : f_slices_Reverse_impl_Msg_impl_Msg (comeL x1 (homeAt x1 (Int.tmod p x0) p).2.1 (Int.tmod p x0)) = some (comeL x1 (homeAt x1 (Int.tmod p x0) p).2.1 (Int.tmod p x0)).reverse := by
        unfold f_slices_Reverse_impl_Msg_impl_Msg; rw [Nat.ble_eq_true_of_le (by omega)]; rfl
      simp only [decide_eq_false h2, cond_false, if_neg h2, implL7 w h (Int.tmod p x0) (homeAt x1 (Int.tmod p x0) p).2.1 f.t0 f.t2 (by omega) o1, r1, Option.bind_some]
      have hl1 : (comeL x1 (Int.tmod p x0) (homeAt x1 (Int.tmod p x0) p).2.1).reverse.length ≤ 1048576 := by rw [List.length_reverse]; exact c1.1
      have hl2 : (comeL x1 (homeAt x1 (Int.tmod p x0) p).2.1 (Int.tmod p x0)).reverse.length ≤ 1048576 := by rw [List.length_reverse]; exact c2.1
      rcases find_loop (d := ((0 : Int), (0 : Int), false, ([] : List Int))) (F := fun n i => f_impl_truth.l0 n p (Int.tmod p x0) ((comeL x1 (Int.tmod p x0) (homeAt x1 (Int.tmod p x0) p).2.1).reverse.length : Int) i x0 x1 x2 (homeAt x1 (Int.tmod p x0) p).1 (homeAt x1 (Int.tmod p x0) p).2.1 (homeAt x1 (Int.tmod p x0) p).2.2.1 (homeAt x1 (Int.tmod p x0) p).2.2.2.1 (homeAt x1 (Int.tmod p x0) p).2.2.2.2.1 (homeAt x1 (Int.tmod p x0) p).2.2.2.2.2.1 (homeAt x1 (Int.tmod p x0) p).2.2.2.2.2.2.1 (homeAt x1 (Int.tmod p x0) p).2.2.2.2.2.2.2 (comeL x1 (Int.tmod p x0) (homeAt x1 (Int.tmod p x0) p).2.1).reverse) (q := qM 3 p)
        (b := (p, Int.tmod p x0, x0, x1, x2, (homeAt x1 (Int.tmod p x0) p).1, (homeAt x1 (Int.tmod p x0) p).2.1, (homeAt x1 (Int.tmod p x0) p).2.2.1, (homeAt x1 (Int.tmod p x0) p).2.2.2.1, (homeAt x1 (Int.tmod p x0) p).2.2.2.2.1, (homeAt x1 (Int.tmod p x0) p).2.2.2.2.2.1, (homeAt x1 (Int.tmod p x0) p).2.2.2.2.2.2.1, (homeAt x1 (Int.tmod p x0) p).2.2.2.2.2.2.2)) (comeL x1 (Int.tmod p x0) (homeAt x1 (Int.tmod p x0) p).2.1).reverse hl1
        (fun n i hi => by simp only [f_impl_truth.l0, decide_eq_false hi, cond_false])
        (fun n i a0 a1 => by
          simp only [f_impl_truth.l0, decide_eq_true a0, decide_eq_true a1, cond_true, Bool.and_self, w64 (show -9223372036854775808 ≤ i + 1 by omega) (by omega)]
          unfold qM
          generalize (comeL x1 (Int.tmod p x0) (homeAt x1 (Int.tmod p x0) p).2.1).reverse.getD i.toNat (0, 0, false, []) = m
          cases decide (m.1 = 3) <;> cases decide (m.2.1 = p) <;> cases m.2.2.1 <;> rfl) with ⟨g1, g2⟩ | ⟨i, g1, g2⟩
      · rw [g2, g1]
        simp only [Option.bind_some, cs, implL7 w h (homeAt x1 (Int.tmod p x0) p).2.1 (Int.tmod p x0) (by omega) o1 f.t0 f.t2, r2]
        rcases find_loop (d := ((0 : Int), (0 : Int), false, ([] : List Int))) (F := fun n i => f_impl_truth.l1 n p ((comeL x1 (homeAt x1 (Int.tmod p x0) p).2.1 (Int.tmod p x0)).reverse.length : Int) i (comeL x1 (homeAt x1 (Int.tmod p x0) p).2.1 (Int.tmod p x0)).reverse) (q := qM 7 p) (b := ()) (comeL x1 (homeAt x1 (Int.tmod p x0) p).2.1 (Int.tmod p x0)).reverse hl2
          (fun n i hi => by simp only [f_impl_truth.l1, decide_eq_false hi, cond_false])
          (fun n i a0 a1 => by
            simp only [f_impl_truth.l1, decide_eq_true a0, decide_eq_true a1, cond_true, Bool.and_self, w64 (show -9223372036854775808 ≤ i + 1 by omega) (by omega)]
            unfold qM
            generalize (comeL x1 (homeAt x1 (Int.tmod p x0) p).2.1 (Int.tmod p x0)).reverse.getD i.toNat (0, 0, false, []) = m
            cases decide (m.1 = 7) <;> cases decide (m.2.1 = p) <;> cases m.2.2.1 <;> rfl) with ⟨k1, k2⟩ | ⟨i, k1, k2⟩
        · rw [k2, k1]
          rfl
        · rw [k2, k1]
          rfl
      · rw [g2, g1]
        rfl
noncomputable def truthB (x0 : Int) (x1 : List NodeT) (x2 : List PacketT) (p : Int) : List Int := bif worldOkB x0 x1 x2 && rng p 5 then truthL x0 x1 p else []
theorem same_truth (x0 : Int) (x1 : List NodeT) (x2 : List PacketT) (p : Int) (h : WorldK x1 x2) : f_spec_Truth x0 x1 x2 p = some (truthB x0 x1 x2 p) ∧ f_impl_Truth x0 x1 x2 p = some (truthB x0 x1 x2 p) ∧ (truthB x0 x1 x2 p).length ≤ 1048576 := by
  unfold f_spec_Truth f_impl_Truth truthB f_impl_isPage
  rw [specWorldOk x0 x1 x2 h, implWorldOk x0 x1 x2 h]
  cases hw : worldOkB x0 x1 x2 with
  | false => exact ⟨rfl, rfl, Nat.zero_le _⟩
  | true =>
    have w := worldFacts x0 x1 x2 hw
    simp only [in_rng, from_rng, Option.bind_some]
    cases hp : rng p 5 with
    | false => exact ⟨rfl, rfl, Nat.zero_le _⟩
    | true =>
      unfold rng at hp
      simp only [Bool.and_eq_true, decide_eq_true_eq] at hp
      obtain ⟨t1, t2⟩ := specTruth_ h w p hp.1 hp.2
      simp only [Bool.not_true, cond_false, cond_true, t1, implTruth_ h w p hp.1 hp.2, Option.bind_some, Bool.and_self]
      exact ⟨trivial, trivial, t2⟩
theorem ix_loop {β : Type} {F : Nat → Int → Option (Bool ⊕ β)} {q : Int → Bool} {b : β} (m : Nat) (hm : m ≤ 1048576) (h0 : ∀ n, F (n + 1) (m : Int) = some (.inr b))
    (h1 : ∀ n (i : Int), 0 ≤ i → i < (m : Int) → F (n + 1) i = bif q i then F n (i + 1) else some (.inl false)) : F N 0 = some (bif (List.range m).all (fun j => q (j : Int)) then .inr b else .inl false) := by
  have step : ∀ (k n j : Nat), j + k = m → k < n → F n (j : Int) = some (bif (List.range' j k).all (fun j => q (j : Int)) then .inr b else .inl false) := by
    intro k
    induction k with
    | zero =>
      intro n j hj hn
      obtain ⟨n, rfl⟩ := succ_fuel hn
      obtain rfl : j = m := by omega
      rw [h0]; rfl
    | succ k ih =>
      intro n j hj hn
      obtain ⟨n, rfl⟩ := succ_fuel hn
      rw [h1 n j (by omega) (by omega), List.range'_succ, List.all_cons]
      cases q (j : Int) with
      | false => rfl
      | true =>
        rw [cond_true, Bool.true_and, show ((j : Int) + 1) = ((j + 1 : Nat) : Int) by omega]
        exact ih n (j + 1) (by omega) (by omega)
  have := step m N 0 (by omega) (Nat.lt_of_le_of_lt hm (Nat.lt_trans (by omega) big))
  rw [← List.range_eq_range'] at this
  exact this
theorem frame_words (e : FrameT) (hk : okFrame e) (h : tF e = true) (h0 : ¬ e.1 = 0) : e.2.1.length = 4 := by
  have hk' : e.2.1.length ≤ 1048576 := hk
  unfold tF f_spec_FrameOk at h
  simp only [decide_eq_false h0, cond_false, in_rng, Option.bind_some, specWords _ hk'] at h
  cases hr : rng e.1 2 with
  | false => rw [hr] at h; cases h
  | true =>
    rw [hr] at h
    simp only [cond_true, Option.bind_some, Option.getD_some, Bool.and_eq_true, decide_eq_true_eq] at h
    omega
theorem all_eqI (a b : List Int) (h : a.length = b.length) : ((List.range a.length).all fun j => decide (a.getD ((j : Int).toNat) 0 = b.getD ((j : Int).toNat) 0)) = decide (a = b) := by
  have e : ((List.range a.length).all fun j => decide (a.getD ((j : Int).toNat) 0 = b.getD ((j : Int).toNat) 0)) = true ↔ a = b := by
    rw [List.all_eq_true]
    constructor
    · intro hx
      refine List.ext_getElem h fun i h1 h2 => ?_
      have := of_decide_eq_true (hx i (List.mem_range.2 h1))
      rw [Int.toNat_natCast, List.getD_eq_getElem?_getD, List.getD_eq_getElem?_getD, List.getElem?_eq_getElem h1, List.getElem?_eq_getElem h2] at this
      exact this
    · rintro rfl i _
      exact decide_eq_true rfl
  by_cases h : a = b
  · rw [e.2 h, decide_eq_true h]
  · rw [decide_eq_false h, ← Bool.not_eq_true]
    exact fun h' => h (e.1 h')
theorem specInts4 (a b : List Int) (ha : a.length = 4) (hb : b.length = 4) : f_spec_l7Ints a b = some (decide (a = b)) := by
  unfold f_spec_l7Ints
  have e := ix_loop (F := fun n i => f_spec_l7Ints.l0 n a b false i) (q := fun i => decide (a.getD i.toNat 0 = b.getD i.toNat 0)) (b := (a, b, false)) a.length (by omega)
    (fun n => by simp only [f_spec_l7Ints.l0, decide_eq_false (show ¬ (a.length : Int) < (a.length : Int) by omega), cond_false])
    (fun n i a0 a1 => by
      simp only [f_spec_l7Ints.l0, decide_eq_true a0, decide_eq_true a1, decide_eq_true (show i < (b.length : Int) by omega), cond_true, Bool.and_self, w64 (show -9223372036854775808 ≤ i + 1 by omega) (by omega)]
      cases decide (a.getD i.toNat 0 = b.getD i.toNat 0) <;> rfl)
  rw [all_eqI a b (by omega)] at e
  rw [e]
  cases h : decide (a = b) with
  | false => rfl
  | true => simp only [cond_true, Option.bind_some, cs, ha, hb, decide_true]
theorem implInts4 (a b : List Int) (ha : a.length = 4) (hb : b.length = 4) : f_slices_Equal_int_int a b = some (decide (a = b)) := by
  unfold f_slices_Equal_int_int
  rw [decide_eq_true (show (a.length : Int) = (b.length : Int) by omega)]
  have e := ix_loop (F := fun n i => f_slices_Equal_int_int.l0 n a b false (a.length : Int) i) (q := fun i => decide (a.getD i.toNat 0 = b.getD i.toNat 0)) (b := false) a.length (by omega)
    (fun n => by simp only [f_slices_Equal_int_int.l0, decide_eq_false (show ¬ (a.length : Int) < (a.length : Int) by omega), cond_false])
    (fun n i a0 a1 => by
      simp only [f_slices_Equal_int_int.l0, decide_eq_true a0, decide_eq_true a1, decide_eq_true (show i < (b.length : Int) by omega), cond_true, Bool.and_self, w64 (show -9223372036854775808 ≤ i + 1 by omega) (by omega)]
      cases decide (a.getD i.toNat 0 = b.getD i.toNat 0) <;> rfl)
  rw [all_eqI a b (by omega)] at e
  simp only [Bool.not_true, cond_false]
  rw [e]
  cases h : decide (a = b) <;> rfl
def frQ (x1 : List NodeT) (p : Int) (t : List Int) (i : Int) : Bool := decide ((frameAt x1 i p).1 = 0) || decide ((frameAt x1 i p).2.1 = t)
def pairQ (x1 : List NodeT) (i j : Int) : Bool := !decide (IntKind.wrap .i64 ((sndAt x1 j i).1 + ((sndAt x1 j i).2.length : Int)) < rcvAt x1 i j)
def saneL (x0 : Int) (x1 : List NodeT) : Bool :=
  ((List.range 6).all fun p => (decide (sumW (cM (p : Int)) x1 = 0) || decide (sumW (cS (p : Int)) x1 = 1)) && (decide (((truthL x0 x1 (p : Int)).length : Int) = 4) && (List.range x1.length).all fun i => frQ x1 (p : Int) (truthL x0 x1 (p : Int)) (i : Int))) &&
  (List.range x1.length).all fun i => (List.range x1.length).all fun j => pairQ x1 (i : Int) (j : Int)
section
variable {x0 : Int} {x1 : List NodeT} {x2 : List PacketT}
theorem specSane1 (h : WorldK x1 x2) (w : WorldFacts x0 x1 x2) (p : Int) (p0 : 0 ≤ p) (p1 : p ≤ 5) (t : List Int) (ht : t.length = 4) (a : Bool) (b : Int) (c : Bool) (l : Int) (d : Bool) : f_spec_Sane.l1 N a p 0 b c x0 x1 x2 p true false x0 x1 x2 p l d x0 x1 x2 t =
    some (bif (List.range x1.length).all (fun i => frQ x1 p t (i : Int)) then .inr (a, p, (x1.length : Int), b, c, x0, x1, x2, p, true, false, x0, x1, x2, p, l, d, (x1.length : Int), x0, false, x0, x1, x2, t) else .inl false) := by
  have hl := w.l1
  exact ix_loop (F := fun n i => f_spec_Sane.l1 n a p i b c x0 x1 x2 p true false x0 x1 x2 p l d x0 x1 x2 t) (q := frQ x1 p t) x1.length h.l1
    (fun n => by simp only [f_spec_Sane.l1, decide_eq_false (show ¬ (x1.length : Int) < x0 by omega), cond_false])
    (fun n i a0 a1 => by
      have h1 := h.l1
      obtain ⟨f1, f2, f3⟩ := frameAt_ok h w i p a0 a1 p0 p1
      have e1 : (x1.getD i.toNat (0, [], [], [], [])).2.1.getD p.toNat (0, [], false) = frameAt x1 i p := rfl
      simp only [f_spec_Sane.l1, decide_eq_true a0, decide_eq_true a1, decide_eq_true (show i < x0 by omega), decide_eq_true p0, decide_eq_true f1, cond_true, Bool.and_self, w64 (show -9223372036854775808 ≤ i + 1 by omega) (by omega), e1]
      unfold frQ
      by_cases g : (frameAt x1 i p).1 = 0
      · simp only [decide_eq_true g, Bool.not_true, cond_false, Bool.true_or, cond_true]
      · simp only [decide_eq_false g, Bool.not_false, cond_true, specInts4 _ t (frame_words _ f2 f3 g) ht, Option.bind_some, Bool.false_or]
        cases decide ((frameAt x1 i p).2.1 = t) <;> rfl)
theorem implSane1 (h : WorldK x1 x2) (w : WorldFacts x0 x1 x2) (p : Int) (p0 : 0 ≤ p) (p1 : p ≤ 5) (t : List Int) (ht : t.length = 4) (j0 : Bool) (j2 : Int) (j3 : Bool) (j4 j5 : Int) (j6 : List NodeT) (j7 : List PacketT) (j8 j9 : Int) (j10 : List NodeT) (j11 : List PacketT) (j12 : Int) (j13 j14 j15 : Bool) (j16 : Int) (j17 j18 : Bool) :
    f_impl_Sane.l1 N j0 p j2 j3 j4 j5 j6 j7 j8 j9 j10 j11 j12 j13 j14 j15 j16 j17 j18 x1 (x1.length : Int) 0 x0 x1 x2 t =
    some (bif (List.range x1.length).all (fun i => frQ x1 p t (i : Int)) then .inr (j0, p, j2, j3, j4, j5, j6, j7, j8, j9, j10, j11, j12, j13, j14, j15, j16, j17, j18, x1, (x1.length : Int), (x1.length : Int), false, x0, x1, x2, t) else .inl false) := by
  have hl := w.l1
  exact ix_loop (F := fun n i => f_impl_Sane.l1 n j0 p j2 j3 j4 j5 j6 j7 j8 j9 j10 j11 j12 j13 j14 j15 j16 j17 j18 x1 (x1.length : Int) i x0 x1 x2 t) (q := frQ x1 p t) x1.length h.l1
    (fun n => by simp only [f_impl_Sane.l1, decide_eq_false (show ¬ (x1.length : Int) < (x1.length : Int) by omega), cond_false])
    (fun n i a0 a1 => by
      have h1 := h.l1
      obtain ⟨f1, f2, f3⟩ := frameAt_ok h w i p a0 a1 p0 p1
      have e1 : (x1.getD i.toNat (0, [], [], [], [])).2.1.getD p.toNat (0, [], false) = frameAt x1 i p := rfl
      simp only [f_impl_Sane.l1, decide_eq_true a0, decide_eq_true a1, decide_eq_true p0, decide_eq_true f1, cond_true, Bool.and_self, w64 (show -9223372036854775808 ≤ i + 1 by omega) (by omega), e1]
      unfold frQ
      by_cases g : (frameAt x1 i p).1 = 0
      · simp only [decide_eq_true g, Bool.not_true, cond_false, Bool.true_or, cond_true]
      · simp only [decide_eq_false g, Bool.not_false, cond_true, implInts4 _ t (frame_words _ f2 f3 g) ht, Option.bind_some, Bool.false_or]
        cases decide ((frameAt x1 i p).2.1 = t) <;> rfl)
theorem specSane0 (h : WorldK x1 x2) (w : WorldFacts x0 x1 x2) (hw : worldOkB x0 x1 x2 = true) (a : Bool) : f_spec_Sane.l0 N a 0 x0 x1 x2 =
    some (bif (List.range 6).all (fun p => (decide (sumW (cM (p : Int)) x1 = 0) || decide (sumW (cS (p : Int)) x1 = 1)) && (decide (((truthL x0 x1 (p : Int)).length : Int) = 4) && (List.range x1.length).all fun i => frQ x1 (p : Int) (truthL x0 x1 (p : Int)) (i : Int))) then .inr (a, x0, x1, x2) else .inl false) := by
  exact ix_loop (F := fun n i => f_spec_Sane.l0 n a i x0 x1 x2) (q := fun p => (decide (sumW (cM p) x1 = 0) || decide (sumW (cS p) x1 = 1)) && (decide (((truthL x0 x1 p).length : Int) = 4) && (List.range x1.length).all fun i => frQ x1 p (truthL x0 x1 p) (i : Int))) 6 (by omega)
    (fun n => by simp only [f_spec_Sane.l0, decide_eq_false (show ¬ ((6 : Nat) : Int) < 6 by omega), cond_false])
    (fun n p a0 a1 => by
      have hp : rng p 5 = true := by unfold rng; rw [decide_eq_true a0, decide_eq_true (show p ≤ 5 by omega)]; rfl
      simp only [f_spec_Sane.l0, decide_eq_true (show p < 6 by omega), cond_true, specAlone x0 x1 x2 p h, aloneB, hw, hp, Bool.true_and, Option.bind_some, (specTruth_ h w p a0 (by omega)).1]
      cases hA : (decide (sumW (cM p) x1 = 0) || decide (sumW (cS p) x1 = 1)) with
      | false => rfl
      | true =>
        by_cases ht : ((truthL x0 x1 p).length : Int) = 4
        · simp only [decide_eq_true ht, Bool.not_true, cond_false, specSane1 h w p a0 (by omega) _ (show (truthL x0 x1 p).length = 4 by omega), Option.bind_some, Bool.true_and]
          cases (List.range x1.length).all fun i => frQ x1 p (truthL x0 x1 p) (i : Int) with
          | false => rfl
          | true => simp only [cond_true, cs, w64 (show -9223372036854775808 ≤ p + 1 by omega) (by omega)]
        · simp only [decide_eq_false ht, Bool.not_true, Bool.not_false, cond_false, cond_true, Bool.false_and, Bool.and_false])
theorem implSane0 (h : WorldK x1 x2) (w : WorldFacts x0 x1 x2) (a : Bool) : f_impl_Sane.l0 N a 0 x0 x1 x2 =
    some (bif (List.range 6).all (fun p => (decide (sumW (cM (p : Int)) x1 = 0) || decide (sumW (cS (p : Int)) x1 = 1)) && (decide (((truthL x0 x1 (p : Int)).length : Int) = 4) && (List.range x1.length).all fun i => frQ x1 (p : Int) (truthL x0 x1 (p : Int)) (i : Int))) then .inr (a, x0, x1, x2) else .inl false) := by
  exact ix_loop (F := fun n i => f_impl_Sane.l0 n a i x0 x1 x2) (q := fun p => (decide (sumW (cM p) x1 = 0) || decide (sumW (cS p) x1 = 1)) && (decide (((truthL x0 x1 p).length : Int) = 4) && (List.range x1.length).all fun i => frQ x1 p (truthL x0 x1 p) (i : Int))) 6 (by omega)
    (fun n => by simp only [f_impl_Sane.l0, decide_eq_false (show ¬ ((6 : Nat) : Int) < 6 by omega), cond_false])
    (fun n p a0 a1 => by
      simp only [f_impl_Sane.l0, decide_eq_true (show p < 6 by omega), cond_true, implAlone_ h w p a0 (by omega), Option.bind_some, implTruth_ h w p a0 (by omega)]
      cases hA : (decide (sumW (cM p) x1 = 0) || decide (sumW (cS p) x1 = 1)) with
      | false => rfl
      | true =>
        by_cases ht : ((truthL x0 x1 p).length : Int) = 4
        · simp only [decide_eq_true ht, Bool.not_true, cond_false, implSane1 h w p a0 (by omega) _ (show (truthL x0 x1 p).length = 4 by omega), Option.bind_some, Bool.true_and]
          cases (List.range x1.length).all fun i => frQ x1 p (truthL x0 x1 p) (i : Int) with
          | false => rfl
          | true => simp only [cond_true, cs, w64 (show -9223372036854775808 ≤ p + 1 by omega) (by omega)]
        · simp only [decide_eq_false ht, Bool.not_true, Bool.not_false, cond_false, cond_true, Bool.false_and, Bool.and_false])
theorem pair_in (w : WorldFacts x0 x1 x2) (i j : Int) (i0 : 0 ≤ i) (i1 : i < (x1.length : Int)) (j0 : 0 ≤ j) (j1 : j < (x1.length : Int)) : i < ((x1.getD j.toNat (0, [], [], [], [])).2.2.2.1.length : Int) ∧ j < ((x1.getD i.toNat (0, [], [], [], [])).2.2.2.2.length : Int) := by
  have hl := w.l1
  have qj := (worldAt w j j0 j1).l3
  have qi := (worldAt w i i0 i1).l4
  exact ⟨by omega, by omega⟩
theorem specSane3 (h : WorldK x1 x2) (w : WorldFacts x0 x1 x2) (i : Int) (i0 : 0 ≤ i) (i1 : i < (x1.length : Int)) (a : Bool) (b c : Int) (d : Bool) : f_spec_Sane.l3 N a i 0 b c d x0 x1 x2 =
    some (bif (List.range x1.length).all (fun j => pairQ x1 i (j : Int)) then .inr (a, i, (x1.length : Int), b, c, d, (x1.length : Int), x0, false, x0, x1, x2) else .inl false) := by
  have hl := w.l1
  exact ix_loop (F := fun n j => f_spec_Sane.l3 n a i j b c d x0 x1 x2) (q := pairQ x1 i) x1.length h.l1
    (fun n => by simp only [f_spec_Sane.l3, decide_eq_false (show ¬ (x1.length : Int) < x0 by omega), cond_false])
    (fun n j a0 a1 => by
      have h1 := h.l1
      obtain ⟨f1, f2⟩ := pair_in w i j i0 i1 a0 a1
      simp only [f_spec_Sane.l3, decide_eq_true (show j < x0 by omega), decide_eq_true i0, decide_eq_true i1, decide_eq_true a0, decide_eq_true a1, decide_eq_true f1, decide_eq_true f2, cond_true, Bool.and_self, w64 (show -9223372036854775808 ≤ j + 1 by omega) (by omega)]
      unfold pairQ sndAt rcvAt
      cases decide (IntKind.wrap .i64 (((x1.getD j.toNat (0, [], [], [], [])).2.2.2.1.getD i.toNat (0, [])).1 + (((x1.getD j.toNat (0, [], [], [], [])).2.2.2.1.getD i.toNat (0, [])).2.length : Int)) < (x1.getD i.toNat (0, [], [], [], [])).2.2.2.2.getD j.toNat 0) <;> rfl)
theorem specSane2 (h : WorldK x1 x2) (w : WorldFacts x0 x1 x2) (a : Bool) : f_spec_Sane.l2 N a 0 x0 x1 x2 =
    some (bif (List.range x1.length).all (fun i => (List.range x1.length).all fun j => pairQ x1 (i : Int) (j : Int)) then .inr a else .inl false) := by
  have hl := w.l1
  exact ix_loop (F := fun n i => f_spec_Sane.l2 n a i x0 x1 x2) (q := fun i => (List.range x1.length).all fun j => pairQ x1 i (j : Int)) x1.length h.l1
    (fun n => by simp only [f_spec_Sane.l2, decide_eq_false (show ¬ (x1.length : Int) < x0 by omega), cond_false])
    (fun n i a0 a1 => by
      have h1 := h.l1
      simp only [f_spec_Sane.l2, decide_eq_true (show i < x0 by omega), cond_true, specSane3 h w i a0 a1, Option.bind_some]
      cases (List.range x1.length).all fun j => pairQ x1 i (j : Int) with
      | false => rfl
      | true => simp only [cond_true, cs, w64 (show -9223372036854775808 ≤ i + 1 by omega) (by omega)])
theorem implSane3 (h : WorldK x1 x2) (w : WorldFacts x0 x1 x2) (i : Int) (i0 : 0 ≤ i) (i1 : i < (x1.length : Int)) (a : Bool) (j706 : List NodeT) (j707 : Int) (j708 : Int) (j709 : Bool) (j710 : Int) (j711 : Int) (j712 : List FrameT) (j713 : List HomeT) (j714 : List SenderT) (j715 : List Int) (j719 : Int) (j720 : List NodeT) (j721 : List PacketT) (j722 : Int) (j723 : List FrameT) (j724 : List HomeT) (j725 : List SenderT) : f_impl_Sane.l3 N a i j706 j707 j708 j709 j710 j711 j712 j713 j714 j715 x1 (x1.length : Int) 0 j719 j720 j721 j722 j723 j724 j725 (x1.getD i.toNat (0, [], [], [], [])).2.2.2.2 =
    some (bif (List.range x1.length).all (fun j => pairQ x1 i (j : Int)) then .inr (a, i, j706, j707, j708, j709, j710, j711, j712, j713, j714, j715, x1, (x1.length : Int), (x1.length : Int), false, j719, j720, j721, j722, j723, j724, j725, (x1.getD i.toNat (0, [], [], [], [])).2.2.2.2) else .inl false) := by
  have hl := w.l1
  exact ix_loop (F := fun n j => f_impl_Sane.l3 n a i j706 j707 j708 j709 j710 j711 j712 j713 j714 j715 x1 (x1.length : Int) j j719 j720 j721 j722 j723 j724 j725 (x1.getD i.toNat (0, [], [], [], [])).2.2.2.2) (q := pairQ x1 i) x1.length h.l1
    (fun n => by simp only [f_impl_Sane.l3, decide_eq_false (show ¬ (x1.length : Int) < (x1.length : Int) by omega), cond_false])
    (fun n j a0 a1 => by
      have h1 := h.l1
      obtain ⟨f1, f2⟩ := pair_in w i j i0 i1 a0 a1
      simp only [f_impl_Sane.l3, decide_eq_true i0, decide_eq_true i1, decide_eq_true a0, decide_eq_true a1, decide_eq_true f1, decide_eq_true f2, cond_true, Bool.and_self, w64 (show -9223372036854775808 ≤ j + 1 by omega) (by omega)]
      unfold pairQ sndAt rcvAt
      cases decide (IntKind.wrap .i64 (((x1.getD j.toNat (0, [], [], [], [])).2.2.2.1.getD i.toNat (0, [])).1 + (((x1.getD j.toNat (0, [], [], [], [])).2.2.2.1.getD i.toNat (0, [])).2.length : Int)) < (x1.getD i.toNat (0, [], [], [], [])).2.2.2.2.getD j.toNat 0) <;> rfl)
theorem implSane2 (h : WorldK x1 x2) (w : WorldFacts x0 x1 x2) (a : Bool) (b : Int) (c : List PacketT) : f_impl_Sane.l2 N a x1 (x1.length : Int) 0 b x1 c =
    some (bif (List.range x1.length).all (fun i => (List.range x1.length).all fun j => pairQ x1 (i : Int) (j : Int)) then .inr a else .inl false) := by
  exact ix_loop (F := fun n i => f_impl_Sane.l2 n a x1 (x1.length : Int) i b x1 c) (q := fun i => (List.range x1.length).all fun j => pairQ x1 i (j : Int)) x1.length h.l1
    (fun n => by simp only [f_impl_Sane.l2, decide_eq_false (show ¬ (x1.length : Int) < (x1.length : Int) by omega), cond_false])
    (fun n i a0 a1 => by
      have h1 := h.l1
      simp only [f_impl_Sane.l2, decide_eq_true a0, decide_eq_true a1, Bool.and_self, cond_true, implSane3 h w i a0 a1, Option.bind_some]
      cases (List.range x1.length).all fun j => pairQ x1 i (j : Int) with
      | false => rfl
      | true => simp only [cond_true, cs, w64 (show -9223372036854775808 ≤ i + 1 by omega) (by omega)])
theorem same_sane (x0 : Int) (x1 : List NodeT) (x2 : List PacketT) (h : WorldK x1 x2) : f_spec_Sane x0 x1 x2 = some (worldOkB x0 x1 x2 && saneL x0 x1) ∧ f_impl_Sane x0 x1 x2 = some (worldOkB x0 x1 x2 && saneL x0 x1) := by
  unfold f_spec_Sane f_impl_Sane
  rw [implWorldOk x0 x1 x2 h]
  cases hw : worldOkB x0 x1 x2 with
  | false =>
    refine ⟨?_, rfl⟩
    obtain ⟨n, hn⟩ : ∃ n, N = n + 1 := ⟨N - 1, rfl⟩
    rw [hn]
    simp only [f_spec_Sane.l0, decide_eq_true (show (0 : Int) < 6 by omega), cond_true, specAlone x0 x1 x2 0 h, aloneB, hw, Bool.false_and, Option.bind_some, Bool.not_false, cs]
  | true =>
    have w := worldFacts x0 x1 x2 hw
    simp only [Option.bind_some, Bool.not_true, cond_false, specSane0 h w hw, implSane0 h w, Bool.true_and]
    unfold saneL
    cases ((List.range 6).all fun p => (decide (sumW (cM (p : Int)) x1 = 0) || decide (sumW (cS (p : Int)) x1 = 1)) && (decide (((truthL x0 x1 (p : Int)).length : Int) = 4) && (List.range x1.length).all fun i => frQ x1 (p : Int) (truthL x0 x1 (p : Int)) (i : Int))) with
    | false => exact ⟨rfl, rfl⟩
    | true =>
      simp only [cond_true, cs, specSane2 h w, implSane2 h w, Option.bind_some, Bool.true_and]
      cases ((List.range x1.length).all fun i => (List.range x1.length).all fun j => pairQ x1 (i : Int) (j : Int)) <;> exact ⟨rfl, rfl⟩
end
theorem sumW_le {α : Type} {W : α → Int} {M : Int} : ∀ x : List α, (∀ e ∈ x, W e ≤ M) → sumW W x ≤ M * x.length
  | [], _ => by simp [sumW]
  | a :: x, h => by
    have h1 := h a (.head _)
    have h2 := sumW_le x (fun e he => h e (.tail _ he))
    simp only [sumW, List.length_cons, Int.natCast_add, Int.mul_add]
    omega
theorem mem_set {α : Type} : ∀ {x : List α} {i : Nat} {e a : α}, a ∈ x.set i e → a = e ∨ a ∈ x
  | [], i, e, a, h => by cases h
  | b :: x, 0, e, a, h => by
    rw [List.set_cons_zero] at h
    rcases List.mem_cons.1 h with h | h
    · exact .inl h
    · exact .inr (.tail _ h)
  | b :: x, i + 1, e, a, h => by
    rw [List.set_cons_succ] at h
    rcases List.mem_cons.1 h with h | h
    · exact .inr (h ▸ .head _)
    · exact (mem_set h).elim .inl fun h => .inr (.tail _ h)
theorem specNodeCopy (x0 : Int) (x1 : List FrameT) (x2 : List HomeT) (x3 : List SenderT) (x4 : List Int) (h : NodeK x1 x2 x3 x4) : f_spec_l5Copy x0 x1 x2 x3 x4 = some (x0, x1, x2, x3, x4) := by
  unfold f_spec_l5Copy
  have hl4 := h.l4
  have c1 := cp_gen (d := ((0 : Int), ([] : List Int), false)) (F := fun n i y => f_spec_l5Copy.l0 n i x0 x1 x2 x3 x4 0 x0 [] [] [] [] y [] [] x4) (R := fun y => (x0, x1, x2, x3, x4, (0 : Int), x0, ([] : List FrameT), ([] : List HomeT), ([] : List SenderT), ([] : List Int), y, ([] : List HomeT), ([] : List SenderT), x4)) x1 h.l1 (fun n i y hi => by simp only [f_spec_l5Copy.l0, decide_eq_false hi, cond_false])
    (fun n i y a0 a1 hm hy => by
      have hl := h.l1
      have hk : (x1.getD i.toNat (0, [], false)).2.1.length ≤ 1048576 := h.e1 _ hm
      simp only [f_spec_l5Copy.l0, f_spec_l3Copy, decide_eq_true a0, decide_eq_true a1, cond_true, Bool.and_self, List.length_nil, Nat.zero_add, (blt_iff _ _).2 (show (x1.getD i.toNat (0, [], false)).2.1.length < 17592186044416 by omega), List.nil_append, Option.bind_some, List.length_singleton, (blt_iff _ _).2 (show y.length + 1 < 3518437208883 by omega), w64 (show -9223372036854775808 ≤ i + 1 by omega) (by omega)])
  have c2 := cp_gen (d := (([] : List Int), (0 : Int), ([] : List Bool), false, (0 : Int), false, (0 : Int), ([] : List (Int × Bool)))) (F := fun n i y => f_spec_l5Copy.l1 n i x0 x1 x2 x3 x4 0 x0 [] [] [] [] x1 y [] x4) (R := fun y => (x0, x1, x2, x3, x4, (0 : Int), x0, ([] : List FrameT), ([] : List HomeT), ([] : List SenderT), ([] : List Int), x1, y, ([] : List SenderT), x4)) x2 h.l2 (fun n i y hi => by simp only [f_spec_l5Copy.l1, decide_eq_false hi, cond_false])
    (fun n i y a0 a1 hm hy => by
      have hl := h.l2
      have hk : okHome (x2.getD i.toNat ([], 0, [], false, 0, false, 0, [])) := h.e2 _ hm
      have k0 := hk.g0
      have k2 := hk.g2
      have k7 := hk.g7
      simp only [f_spec_l5Copy.l1, f_spec_l4Copy, decide_eq_true a0, decide_eq_true a1, cond_true, Bool.and_self, List.length_nil, Nat.zero_add, (blt_iff _ _).2 (show (x2.getD i.toNat ([], 0, [], false, 0, false, 0, [])).1.length < 17592186044416 by omega), (blt_iff _ _).2 (show (x2.getD i.toNat ([], 0, [], false, 0, false, 0, [])).2.2.1.length < 140737488355328 by omega), (blt_iff _ _).2 (show (x2.getD i.toNat ([], 0, [], false, 0, false, 0, [])).2.2.2.2.2.2.2.length < 8796093022208 by omega), List.nil_append, Option.bind_some, List.length_singleton, (blt_iff _ _).2 (show y.length + 1 < 1256584717458 by omega), w64 (show -9223372036854775808 ≤ i + 1 by omega) (by omega)])
  have c3 := cp_gen (d := ((0 : Int), ([] : List MsgL))) (F := fun n i y => f_spec_l5Copy.l2 n i x0 x1 x2 x3 x4 0 x0 [] [] [] [] x1 x2 y x4) (R := fun y => ((0 : Int), x0, ([] : List FrameT), ([] : List HomeT), ([] : List SenderT), ([] : List Int), x1, x2, y, x4)) x3 h.l3 (fun n i y hi => by simp only [f_spec_l5Copy.l2, decide_eq_false hi, cond_false])
    (fun n i y a0 a1 hm hy => by
      have hl := h.l3
      have hk : okSender (x3.getD i.toNat (0, [])) := h.e3 _ hm
      simp only [f_spec_l5Copy.l2, specSenderCopy _ _ hk.1 hk.2, decide_eq_true a0, decide_eq_true a1, cond_true, Bool.and_self, Option.bind_some, List.length_singleton, (blt_iff _ _).2 (show y.length + 1 < 4398046511104 by omega), w64 (show -9223372036854775808 ≤ i + 1 by omega) (by omega)])
  simp only [List.length_nil, Nat.zero_add, (blt_iff _ _).2 (show x4.length < 17592186044416 by omega), cond_true, List.nil_append, Option.bind_some, c1, c2, c3]
theorem implNodeCopy (x0 : Int) (x1 : List FrameT) (x2 : List HomeT) (x3 : List SenderT) (x4 : List Int) (h : NodeK x1 x2 x3 x4) : f_impl_copyNode x0 x1 x2 x3 x4 = some (x0, x1, x2, x3, x4) := by
  unfold f_impl_copyNode
  have hl4 := h.l4
  have c1 := cp_gen (d := ((0 : Int), ([] : List Int), false)) (F := fun n i y => f_impl_copyNode.l0 n x1 (x1.length : Int) i x0 x1 x2 x3 x4 0 x0 [] [] [] [] y [] [] x4) (R := fun y => (x0, x1, x2, x3, x4, (0 : Int), x0, ([] : List FrameT), ([] : List HomeT), ([] : List SenderT), ([] : List Int), y, ([] : List HomeT), ([] : List SenderT), x4)) x1 h.l1 (fun n i y hi => by simp only [f_impl_copyNode.l0, decide_eq_false hi, cond_false])
    (fun n i y a0 a1 hm hy => by
      have hl := h.l1
      have hk : (x1.getD i.toNat (0, [], false)).2.1.length ≤ 1048576 := h.e1 _ hm
      simp only [f_impl_copyNode.l0, f_impl_copyFrame, f_slices_Clone_int_int, decide_eq_true a0, decide_eq_true a1, cond_true, Bool.and_self, Nat.zero_add, (blt_iff _ _).2 (show (x1.getD i.toNat (0, [], false)).2.1.length < 17592186044416 by omega), Option.bind_some, List.length_singleton, (blt_iff _ _).2 (show y.length + 1 < 3518437208883 by omega), w64 (show -9223372036854775808 ≤ i + 1 by omega) (by omega)])
  have c2 := cp_gen (d := (([] : List Int), (0 : Int), ([] : List Bool), false, (0 : Int), false, (0 : Int), ([] : List (Int × Bool)))) (F := fun n i y => f_impl_copyNode.l1 n x2 (x2.length : Int) i x0 x1 x2 x3 x4 0 x0 [] [] [] [] x1 y [] x4) (R := fun y => (x0, x1, x2, x3, x4, (0 : Int), x0, ([] : List FrameT), ([] : List HomeT), ([] : List SenderT), ([] : List Int), x1, y, ([] : List SenderT), x4)) x2 h.l2 (fun n i y hi => by simp only [f_impl_copyNode.l1, decide_eq_false hi, cond_false])
    (fun n i y a0 a1 hm hy => by
      have hl := h.l2
      have hk : okHome (x2.getD i.toNat ([], 0, [], false, 0, false, 0, [])) := h.e2 _ hm
      have k0 := hk.g0
      have k2 := hk.g2
      have k7 := hk.g7
      simp only [f_impl_copyNode.l1, f_impl_copyHome, f_slices_Clone_int_int, f_slices_Clone_bool_bool, f_slices_Clone_impl_Wait_impl_Wait, decide_eq_true a0, decide_eq_true a1, cond_true, Bool.and_self, Nat.zero_add, (blt_iff _ _).2 (show (x2.getD i.toNat ([], 0, [], false, 0, false, 0, [])).1.length < 17592186044416 by omega), (blt_iff _ _).2 (show (x2.getD i.toNat ([], 0, [], false, 0, false, 0, [])).2.2.1.length < 140737488355328 by omega), (blt_iff _ _).2 (show (x2.getD i.toNat ([], 0, [], false, 0, false, 0, [])).2.2.2.2.2.2.2.length < 8796093022208 by omega), Option.bind_some, List.length_singleton, (blt_iff _ _).2 (show y.length + 1 < 1256584717458 by omega), w64 (show -9223372036854775808 ≤ i + 1 by omega) (by omega)])
  have c3 := cp_gen (d := ((0 : Int), ([] : List MsgL))) (F := fun n i y => f_impl_copyNode.l2 n x3 (x3.length : Int) i 0 x0 [] [] [] [] x1 x2 y x4) (R := fun y => ((0 : Int), x0, ([] : List FrameT), ([] : List HomeT), ([] : List SenderT), ([] : List Int), x1, x2, y, x4)) x3 h.l3 (fun n i y hi => by simp only [f_impl_copyNode.l2, decide_eq_false hi, cond_false])
    (fun n i y a0 a1 hm hy => by
      have hl := h.l3
      have hk : okSender (x3.getD i.toNat (0, [])) := h.e3 _ hm
      simp only [f_impl_copyNode.l2, implSenderCopy _ _ hk.1 hk.2, decide_eq_true a0, decide_eq_true a1, cond_true, Bool.and_self, Option.bind_some, List.length_singleton, (blt_iff _ _).2 (show y.length + 1 < 4398046511104 by omega), w64 (show -9223372036854775808 ≤ i + 1 by omega) (by omega)])
  simp only [f_slices_Clone_impl_Receiver_impl_Receiver, Nat.zero_add, (blt_iff _ _).2 (show x4.length < 17592186044416 by omega), cond_true, Option.bind_some, c1, c2, c3]
def lessB (st : Int) (w : Bool) : Bool := decide (st = 0) || (w && decide (st = 1))
theorem specLess (st : Int) (a : List Int) (b w : Bool) : f_spec_l5Less st a b w = some (lessB st w) := by
  unfold f_spec_l5Less lessB
  by_cases h : st = 0
  · simp only [decide_eq_true h, cond_true, Bool.true_or]
  · cases w <;> simp only [decide_eq_false h, cond_false, cond_true, Bool.false_or, Bool.true_and, Bool.false_and]
theorem implLess (st : Int) (a : List Int) (b w : Bool) (h0 : 0 ≤ st) (h2 : st ≤ 2) : f_impl_lacks st a b w = some (lessB st w) := by
  unfold f_impl_lacks lessB
  by_cases h : st = 0
  · simp only [decide_eq_true h, cond_true, Bool.true_or]
  · by_cases h1 : st = 1
    · cases w <;> simp only [decide_eq_false h, decide_eq_true h1, decide_eq_false (show ¬ st = 2 by omega), cond_false, cond_true, Bool.false_or, Bool.true_and, Bool.false_and, Bool.not_false]
    · cases w <;> simp only [decide_eq_false h, decide_eq_false h1, decide_eq_true (show st = 2 by omega), cond_false, cond_true, Bool.false_or, Bool.true_and, Bool.false_and, Bool.not_true]
abbrev ToldT := Int × Int × Int × Bool × List Int
abbrev KT := List Int × Int × List Bool × Bool × Int × Bool × Int × List (Int × Bool) × Int × List ToldT
def okT (k : Int) (e : ToldT) : Prop := 0 ≤ e.1 ∧ e.1 ≤ k - 1 ∧ e.2.2.2.2.length ≤ 4 ∧ f_spec_MsgOk e.2.1 e.2.2.1 e.2.2.2.1 e.2.2.2.2 = some true
structure HK (k : Int) (w : List Int) (own : Int) (seen : List Bool) (who need : Int) (wait : List (Int × Bool)) (page : Int) (told : List ToldT) : Prop where
  k0 : 1 ≤ k
  k1 : k ≤ 4
  w4 : w.length = 4
  ww : allW w = true
  o0 : -1 ≤ own
  o1 : own ≤ k - 1
  sl : (seen.length : Int) = k
  h0 : 0 ≤ who
  h1 : who ≤ k - 1
  n0 : 0 ≤ need
  n1 : need ≤ k
  q : ∀ e ∈ wait, 0 ≤ e.1 ∧ e.1 ≤ k - 1
  ql : wait.length ≤ 12
  p0 : 0 ≤ page
  p1 : page ≤ 5
  t : ∀ e ∈ told, okT k e
  tl : told.length + 8 * wait.length ≤ 120
structure SI (own : Int) (seen : List Bool) (busy : Bool) (who : Int) (ex : Bool) (need : Int) : Prop where
  a : 0 ≤ own → ∀ j : Nat, seen.getD j false = false
  b : busy = true → (0 ≤ own ∧ need = 0) ∨ (own = -1 ∧ 0 < need ∧ ex = true ∧ ∀ j : Nat, (j : Int) ≠ who → seen.getD j false = false)
  c : busy = false → need = 0
theorem msg_data (page : Int) (p0 : 0 ≤ page) (p1 : page ≤ 5) (ex : Bool) (w : List Int) (h4 : w.length = 4) (hw : allW w = true) : f_spec_MsgOk 3 page ex w = some true := by
  unfold f_spec_MsgOk
  have h1 : f_spec_l1In 3 1 7 = some true := rfl
  have h2 : f_spec_l1In page 0 5 = some true := by unfold f_spec_l1In; rw [decide_eq_true p0, decide_eq_true p1]; rfl
  simp only [decide_true, cond_true, h1, h2, Option.bind_some, specWords w (by omega), hw, h4, Bool.true_and]
  rfl
theorem msg_none (kind page : Int) (hk : kind = 4 ∨ kind = 6) (p0 : 0 ≤ page) (p1 : page ≤ 5) (ex : Bool) (he : ex = true → kind = 6) : f_spec_MsgOk kind page ex [] = some true := by
  have h2 : f_spec_l1In page 0 5 = some true := by unfold f_spec_l1In; rw [decide_eq_true p0, decide_eq_true p1]; rfl
  have h3 : f_spec_l1Words [] 0 = some true := by rw [specWords [] (by simp)]; rfl
  rcases hk with rfl | rfl
  · have e : ex = false := by cases ex with
      | false => rfl
      | true => exact absurd (he rfl) (by omega)
    subst e
    have h1 : f_spec_l1In 4 1 7 = some true := rfl
    unfold f_spec_MsgOk
    simp only [decide_eq_false (show ¬ (4 : Int) = 3 by omega), decide_eq_false (show ¬ (4 : Int) = 6 by omega), decide_eq_false (show ¬ (4 : Int) = 7 by omega), cond_false, cond_true, h1, h2, h3, Option.bind_some, Bool.not_false, List.length_nil]
    try rfl
  · have h1 : f_spec_l1In 6 1 7 = some true := rfl
    unfold f_spec_MsgOk
    simp only [decide_eq_false (show ¬ (6 : Int) = 3 by omega), decide_eq_true (show (6 : Int) = 6 by omega), decide_eq_false (show ¬ (6 : Int) = 7 by omega), cond_false, cond_true, h1, h2, h3, Option.bind_some, Bool.not_false, List.length_nil]
    try rfl
/-- The page is given. -/
def giveB (w : List Int) (own : Int) (seen : List Bool) (who : Int) (ex : Bool) (need : Int) (wait : List (Int × Bool)) (page : Int) (told : List ToldT) : KT := (w, if ex = true then who else own, seen.set who.toNat (!ex), false, 0, false, need, wait, page, told ++ [(who, 3, page, ex, w)])
theorem give_eq {k : Int} {w : List Int} {own : Int} {seen : List Bool} {who need : Int} {wait : List (Int × Bool)} {page : Int} {told : List ToldT} (h : HK k w own seen who need wait page told) (busy ex : Bool) :
    f_spec_l4Give w own seen busy who ex need wait page told = some (giveB w own seen who ex need wait page told) ∧ f_impl_keeper_give w own seen busy who ex need wait page told = some (giveB w own seen who ex need wait page told) := by
  have h4 := h.w4
  have ht := h.tl
  have hs := h.sl
  have h0 := h.h0
  have h1 := h.h1
  unfold f_spec_l4Give f_impl_keeper_give giveB
  constructor
  · simp only [f_spec_l4Tell, List.length_nil, Nat.zero_add, (blt_iff _ _).2 (show w.length < 17592186044416 by omega), cond_true, List.nil_append, Option.bind_some, List.length_singleton, (blt_iff _ _).2 (show told.length + 1 < 2513169434916 by omega), decide_eq_true h0, decide_eq_true (show who < (seen.length : Int) by omega), Bool.and_self]
    cases ex <;> rfl
  · simp only [f_slices_Clone_int_int, Nat.zero_add, (blt_iff _ _).2 (show w.length < 17592186044416 by omega), cond_true, Option.bind_some, List.length_singleton, (blt_iff _ _).2 (show told.length + 1 < 2513169434916 by omega), decide_eq_true h0, decide_eq_true (show who < (seen.length : Int) by omega), Bool.and_self]
    cases ex <;> rfl
theorem give_ok {k : Int} {w : List Int} {own : Int} {seen : List Bool} {who need : Int} {wait : List (Int × Bool)} {page : Int} {told : List ToldT} (h : HK k w own seen who need wait page told) (ex : Bool) (ht : told.length + 8 * wait.length ≤ 119) :
    HK k w (if ex = true then who else own) (seen.set who.toNat (!ex)) 0 need wait page (told ++ [(who, 3, page, ex, w)]) := by
  have h0 := h.h0
  have h1 := h.h1
  have o0 := h.o0
  have o1 := h.o1
  have k0 := h.k0
  refine ⟨h.k0, h.k1, h.w4, h.ww, ?_, ?_, by rw [List.length_set]; exact h.sl, Int.le_refl _, by omega, h.n0, h.n1, h.q, h.ql, h.p0, h.p1, fun e he => ?_, by rw [List.length_append, List.length_singleton]; omega⟩
  · cases ex <;> simp <;> omega
  · cases ex <;> simp <;> omega
  · rcases List.mem_append.1 he with he | he
    · exact h.t e he
    · rw [List.mem_singleton.1 he]
      exact ⟨h0, h1, by show w.length ≤ 4; have := h.w4; omega, msg_data page h.p0 h.p1 ex w h.w4 h.ww⟩
/-- Those who read are told that it is gone. -/
def scanL (who page : Int) : Int → List Bool → List Bool × List ToldT
  | _, [] => ([], [])
  | i, b :: x => if b = true ∧ i ≠ who then (false :: (scanL who page (i + 1) x).1, (i, 4, page, false, []) :: (scanL who page (i + 1) x).2) else (b :: (scanL who page (i + 1) x).1, (scanL who page (i + 1) x).2)
theorem scanL_len (who page : Int) : ∀ (x : List Bool) (i : Int), (scanL who page i x).1.length = x.length ∧ (scanL who page i x).2.length ≤ x.length
  | [], i => ⟨rfl, Nat.le_refl _⟩
  | b :: x, i => by
    obtain ⟨h1, h2⟩ := scanL_len who page x (i + 1)
    unfold scanL
    split <;> simp only [List.length_cons] <;> omega
theorem scanL_mem (who page : Int) : ∀ (x : List Bool) (i : Int), ∀ e ∈ (scanL who page i x).2, i ≤ e.1 ∧ e.1 < i + x.length ∧ e.2 = (4, page, false, [])
  | [], i, e, he => by cases he
  | b :: x, i, e, he => by
    have ih := scanL_mem who page x (i + 1)
    have low : ∀ e ∈ (scanL who page (i + 1) x).2, i ≤ e.1 ∧ e.1 < i + ((b :: x).length : Nat) ∧ e.2 = (4, page, false, []) := by
      intro e he
      obtain ⟨h1, h2, h3⟩ := ih e he
      simp only [List.length_cons]
      exact ⟨by omega, by omega, h3⟩
    unfold scanL at he
    split at he
    · rcases List.mem_cons.1 he with rfl | he
      · exact ⟨Int.le_refl _, by simp only [List.length_cons]; omega, rfl⟩
      · exact low e he
    · exact low e he
theorem scanL_other (who page : Int) : ∀ (x : List Bool) (i : Int) (j : Nat), i + (j : Int) ≠ who → (scanL who page i x).1.getD j false = false
  | [], i, j, _ => by simp [scanL]
  | b :: x, i, 0, h => by
    unfold scanL
    split
    · rfl
    · rename_i hn
      cases b with
      | false => rfl
      | true => exact absurd ⟨rfl, by omega⟩ hn
  | b :: x, i, j + 1, h => by
    have ih := scanL_other who page x (i + 1) j (by omega)
    unfold scanL
    split <;> simpa using ih
theorem spec_scan (own : Int) (busy : Bool) (who : Int) (page : Int) (w : List Int) (wait : List (Int × Bool)) : ∀ (r n : Nat) (pre x : List Bool) (need : Int) (told : List ToldT), x.length = r → r < n → pre.length + x.length ≤ 4 → 0 ≤ need → need + x.length ≤ 100 → told.length + x.length ≤ 1000 →
    f_spec_l4Next.l0 n (pre.length : Int) own busy who true need page w (pre ++ x) wait told = some (own, busy, who, true, need + ((scanL who page pre.length x).2.length : Int), page, w, pre ++ (scanL who page pre.length x).1, wait, told ++ (scanL who page pre.length x).2) := by
  intro r
  induction r with
  | zero =>
    intro n pre x need told hx hn hl hn0 hn1 ht
    obtain ⟨n, rfl⟩ := succ_fuel hn
    obtain rfl := List.eq_nil_of_length_eq_zero hx
    simp only [f_spec_l4Next.l0, List.append_nil, decide_eq_false (show ¬ (pre.length : Int) < (pre.length : Int) by omega), cond_false, scanL, List.length_nil, Int.natCast_zero, Int.add_zero]
  | succ r ih =>
    intro n pre x need told hx hn hl hn0 hn1 ht
    obtain ⟨n, rfl⟩ := succ_fuel hn
    cases x with
    | nil => cases hx
    | cons b x =>
      simp only [List.length_cons] at hx hl hn1 ht
      have hg : (pre ++ b :: x).getD pre.length false = b := by simp [List.getD_eq_getElem?_getD]
      have hs : (pre ++ b :: x).set pre.length false = (pre ++ [false]) ++ x := by simp
      have hb : (pre ++ b :: x) = (pre ++ [b]) ++ x := by simp
      have hlen : ((pre ++ b :: x).length : Int) = pre.length + 1 + x.length := by simp; omega
      simp only [f_spec_l4Next.l0, hlen, decide_eq_true (show (pre.length : Int) < (pre.length : Int) + 1 + (x.length : Int) by omega), decide_eq_true (show 0 ≤ (pre.length : Int) by omega), cond_true, Bool.and_self, Int.toNat_natCast, hg, f_spec_l4Tell, List.length_singleton, (blt_iff _ _).2 (show told.length + 1 < 2513169434916 by omega), Option.bind_some, hs, w64 (show -9223372036854775808 ≤ (pre.length : Int) + 1 by omega) (by omega), w64 (show -9223372036854775808 ≤ need + 1 by omega) (by omega)]
      cases b with
      | false =>
        have := ih n (pre ++ [false]) x need told (by omega) (by omega) (by simp; omega) hn0 (by omega) (by omega)
        simp only [List.length_append, List.length_singleton, Int.natCast_add, Int.natCast_one] at this
        simp only [cond_false]
        rw [hb, this]
        simp only [scanL, Bool.false_eq_true, false_and, if_false, List.append_assoc, List.singleton_append]
      | true =>
        by_cases hw : (pre.length : Int) = who
        · have := ih n (pre ++ [true]) x need told (by omega) (by omega) (by simp; omega) hn0 (by omega) (by omega)
          simp only [List.length_append, List.length_singleton, Int.natCast_add, Int.natCast_one] at this
          simp only [cond_true, decide_eq_true hw, Bool.not_true, cond_false]
          rw [hb, this]
          simp only [scanL, ne_eq, hw, not_true_eq_false, and_false, if_false, List.append_assoc, List.singleton_append]
        · have := ih n (pre ++ [false]) x (need + 1) (told ++ [((pre.length : Int), 4, page, false, [])]) (by omega) (by omega) (by simp; omega) (by omega) (by omega) (by simp; omega)
          simp only [List.length_append, List.length_singleton, Int.natCast_add, Int.natCast_one] at this
          simp only [cond_true, decide_eq_false hw, Bool.not_false, this]
          simp only [scanL, ne_eq, hw, not_false_eq_true, and_self, if_true, List.append_assoc, List.singleton_append, List.length_cons, Int.natCast_add, Int.natCast_one]
          rw [show need + 1 + ((scanL who page ((pre.length : Int) + 1) x).2.length : Int) = need + (((scanL who page ((pre.length : Int) + 1) x).2.length : Int) + 1) by omega]
theorem impl_scan (own : Int) (busy : Bool) (who : Int) (page : Int) (w : List Int) (wait : List (Int × Bool)) (vo vl : Int) (len : Int) : ∀ (r n : Nat) (pre x : List Bool) (need : Int) (told : List ToldT), x.length = r → r < n → pre.length + x.length ≤ 4 → len = pre.length + x.length → 0 ≤ need → need + x.length ≤ 100 → told.length + x.length ≤ 1000 →
    f_impl_keeper_begin.l0 n len (pre.length : Int) own busy who true need vo vl page (pre ++ x) w wait told = some (own, busy, who, true, need + ((scanL who page pre.length x).2.length : Int), vo, vl, page, w, pre ++ (scanL who page pre.length x).1, wait, told ++ (scanL who page pre.length x).2) := by
  intro r
  induction r with
  | zero =>
    intro n pre x need told hx hn hl hlen hn0 hn1 ht
    obtain ⟨n, rfl⟩ := succ_fuel hn
    obtain rfl := List.eq_nil_of_length_eq_zero hx
    simp only [List.length_nil] at hlen
    simp only [f_impl_keeper_begin.l0, List.append_nil, decide_eq_false (show ¬ (pre.length : Int) < len by omega), cond_false, scanL, List.length_nil, Int.natCast_zero, Int.add_zero]
  | succ r ih =>
    intro n pre x need told hx hn hl hlen hn0 hn1 ht
    obtain ⟨n, rfl⟩ := succ_fuel hn
    cases x with
    | nil => cases hx
    | cons b x =>
      simp only [List.length_cons] at hx hl hn1 ht hlen
      have hg : (pre ++ b :: x).getD pre.length false = b := by simp [List.getD_eq_getElem?_getD]
      have hs : (pre ++ b :: x).set pre.length false = (pre ++ [false]) ++ x := by simp
      have hb : (pre ++ b :: x) = (pre ++ [b]) ++ x := by simp
      have hlen2 : ((pre ++ b :: x).length : Int) = pre.length + 1 + x.length := by simp; omega
      simp only [f_impl_keeper_begin.l0, hlen2, decide_eq_true (show (pre.length : Int) < len by omega), decide_eq_true (show (pre.length : Int) < (pre.length : Int) + 1 + (x.length : Int) by omega), decide_eq_true (show 0 ≤ (pre.length : Int) by omega), cond_true, Bool.and_self, Int.toNat_natCast, hg, List.length_singleton, (blt_iff _ _).2 (show told.length + 1 < 2513169434916 by omega), Option.bind_some, hs, w64 (show -9223372036854775808 ≤ (pre.length : Int) + 1 by omega) (by omega), w64 (show -9223372036854775808 ≤ need + 1 by omega) (by omega)]
      cases b with
      | false =>
        have := ih n (pre ++ [false]) x need told (by omega) (by omega) (by simp; omega) (by simp; omega) hn0 (by omega) (by omega)
        simp only [List.length_append, List.length_singleton, Int.natCast_add, Int.natCast_one] at this
        simp only [cond_false]
        rw [hb, this]
        simp only [scanL, Bool.false_eq_true, false_and, if_false, List.append_assoc, List.singleton_append]
      | true =>
        by_cases hw : (pre.length : Int) = who
        · have := ih n (pre ++ [true]) x need told (by omega) (by omega) (by simp; omega) (by simp; omega) hn0 (by omega) (by omega)
          simp only [List.length_append, List.length_singleton, Int.natCast_add, Int.natCast_one] at this
          simp only [cond_true, decide_eq_true hw, Bool.not_true, cond_false]
          rw [hb, this]
          simp only [scanL, ne_eq, hw, not_true_eq_false, and_false, if_false, List.append_assoc, List.singleton_append]
        · have := ih n (pre ++ [false]) x (need + 1) (told ++ [((pre.length : Int), 4, page, false, [])]) (by omega) (by omega) (by simp; omega) (by simp; omega) (by omega) (by omega) (by simp; omega)
          simp only [List.length_append, List.length_singleton, Int.natCast_add, Int.natCast_one] at this
          simp only [cond_true, decide_eq_false hw, Bool.not_false, this]
          simp only [scanL, ne_eq, hw, not_false_eq_true, and_self, if_true, List.append_assoc, List.singleton_append, List.length_cons, Int.natCast_add, Int.natCast_one]
          rw [show need + 1 + ((scanL who page ((pre.length : Int) + 1) x).2.length : Int) = need + (((scanL who page ((pre.length : Int) + 1) x).2.length : Int) + 1) by omega]
theorem impl_skip (own : Int) (busy : Bool) (who : Int) (page : Int) (w : List Int) (wait : List (Int × Bool)) (vo vl need : Int) (seen : List Bool) (told : List ToldT) (hs : seen.length ≤ 4) : ∀ (r n : Nat) (i : Nat), i + r = seen.length → r < n →
    f_impl_keeper_begin.l0 n (seen.length : Int) (i : Int) own busy who false need vo vl page seen w wait told = some (own, busy, who, false, need, vo, vl, page, w, seen, wait, told) := by
  intro r
  induction r with
  | zero =>
    intro n i hi hn
    obtain ⟨n, rfl⟩ := succ_fuel hn
    simp only [f_impl_keeper_begin.l0, decide_eq_false (show ¬ (i : Int) < (seen.length : Int) by omega), cond_false]
  | succ r ih =>
    intro n i hi hn
    obtain ⟨n, rfl⟩ := succ_fuel hn
    simp only [f_impl_keeper_begin.l0, decide_eq_true (show (i : Int) < (seen.length : Int) by omega), decide_eq_true (show 0 ≤ (i : Int) by omega), cond_true, cond_false, Bool.and_self, w64 (show -9223372036854775808 ≤ (i : Int) + 1 by omega) (by omega)]
    rw [show (i : Int) + 1 = ((i + 1 : Nat) : Int) by omega]
    exact ih n (i + 1) (by omega) (by omega)
/-- The first one that waits. -/
def nextB (w : List Int) (own : Int) (seen : List Bool) (who : Int) (ex : Bool) (need : Int) (wait : List (Int × Bool)) (page : Int) (told : List ToldT) : KT :=
  if 0 ≤ own then (w, own, seen, true, who, ex, need, wait, page, told ++ [(own, 6, page, ex, [])])
  else if ex = true then
    if (scanL who page 0 seen).2.length = 0 then giveB w own (scanL who page 0 seen).1 who true 0 wait page (told ++ (scanL who page 0 seen).2)
    else (w, own, (scanL who page 0 seen).1, true, who, true, ((scanL who page 0 seen).2.length : Int), wait, page, told ++ (scanL who page 0 seen).2)
  else giveB w own seen who false 0 wait page told
theorem scan_ok {k : Int} {w : List Int} {own : Int} {seen : List Bool} {who need : Int} {wait : List (Int × Bool)} {page : Int} {told : List ToldT} (h : HK k w own seen who need wait page told) (ht : told.length + 8 * wait.length ≤ 112) :
    HK k w own (scanL who page 0 seen).1 who ((scanL who page 0 seen).2.length : Int) wait page (told ++ (scanL who page 0 seen).2) := by
  obtain ⟨l1, l2⟩ := scanL_len who page seen 0
  have hs := h.sl
  have hk := h.k1
  refine ⟨h.k0, h.k1, h.w4, h.ww, h.o0, h.o1, by rw [l1]; exact hs, h.h0, h.h1, by omega, by omega, h.q, h.ql, h.p0, h.p1, fun e he => ?_, by rw [List.length_append]; omega⟩
  rcases List.mem_append.1 he with he | he
  · exact h.t e he
  · obtain ⟨a, b, c⟩ := scanL_mem who page seen 0 e he
    refine ⟨a, by omega, ?_, ?_⟩
    · rw [c]; exact Nat.zero_le _
    · rw [c]; exact msg_none 4 page (.inl rfl) h.p0 h.p1 false (fun h => by cases h)
theorem next_eq {k : Int} {w : List Int} {own : Int} {seen : List Bool} {who need : Int} {i : Int} {ex : Bool} {wt : List (Int × Bool)} {page : Int} {told : List ToldT} (h : HK k w own seen who need ((i, ex) :: wt) page told) (busy ex0 : Bool) :
    f_spec_l4Next w own seen busy who ex0 need ((i, ex) :: wt) page told = some (nextB w own seen i ex need wt page told) ∧ f_impl_keeper_begin w own seen busy who ex0 need ((i, ex) :: wt) page told = some (nextB w own seen i ex need wt page told) := by
  have ht := h.tl
  have hq := h.ql
  have hs := h.sl
  have hk := h.k1
  have hi := h.q (i, ex) (.head _)
  simp only [List.length_cons] at ht hq
  have h' : HK k w own seen i 0 wt page told := ⟨h.k0, h.k1, h.w4, h.ww, h.o0, h.o1, h.sl, hi.1, hi.2, Int.le_refl _, by have := h.k0; omega, fun e he => h.q e (.tail _ he), by omega, h.p0, h.p1, h.t, by omega⟩
  have hsc := scan_ok h' (by omega)
  have e1 : (((i, ex) :: wt).drop 1).take ((((i, ex) :: wt).length : Int) - 1).toNat = wt := by simp
  have e2 : ((i, ex) :: wt).getD 0 (0, false) = (i, ex) := rfl
  have fuel : seen.length < N := Nat.lt_of_le_of_lt (show seen.length ≤ 4 by omega) (Nat.lt_trans (by omega) big)
  unfold f_spec_l4Next f_impl_keeper_begin nextB
  simp only [decide_eq_true (show (0 : Int) < (((i, ex) :: wt).length : Int) by simp only [List.length_cons]; omega), decide_eq_true (show (1 : Int) ≤ (((i, ex) :: wt).length : Int) by simp only [List.length_cons]; omega), cond_true, e1, e2, List.length_nil, Nat.zero_add, (blt_iff _ _).2 (show wt.length < 8796093022208 by omega), List.nil_append, Option.bind_some]
  by_cases ho : 0 ≤ own
  · simp only [decide_eq_true ho, cond_true, if_pos ho, f_spec_l4Tell, List.length_singleton, (blt_iff _ _).2 (show told.length + 1 < 2513169434916 by omega), Option.bind_some]
    exact ⟨trivial, trivial⟩
  · simp only [decide_eq_false ho, cond_false, if_neg ho]
    cases ex with
    | true =>
      have s1 := spec_scan own true i page w wt seen.length N [] seen 0 told rfl fuel (by simp; omega) (by omega) (by omega) (by omega)
      have s2 := impl_scan own true i page w ((i, true) :: wt) 1 ((((i, true) :: wt).length : Int) - 1) (seen.length : Int) seen.length N [] seen 0 told rfl fuel (by simp; omega) (by simp) (by omega) (by omega) (by omega)
      simp only [List.length_nil, Int.natCast_zero, List.nil_append, Int.zero_add] at s1 s2
      simp only [s1, s2, Option.bind_some, if_true, show ((1 : Int)).toNat = 1 from rfl, e1]
      by_cases hz : (scanL i page 0 seen).2.length = 0
      · simp only [hz, Int.natCast_zero, decide_true, cond_true, if_true]
        rw [hz] at hsc
        obtain ⟨g1, g2⟩ := give_eq hsc true true
        simp only [Int.natCast_zero] at g1 g2
        rw [g1, g2]
        exact ⟨rfl, rfl⟩
      · simp only [decide_eq_false (show ¬ ((scanL i page 0 seen).2.length : Int) = 0 by omega), cond_false, if_neg hz]
        exact ⟨trivial, trivial⟩
    | false =>
      obtain ⟨n, hn⟩ : ∃ n, N = n + 1 := ⟨N - 1, rfl⟩
      have s1 : f_spec_l4Next.l0 N 0 own true i false 0 page w seen wt told = some (own, true, i, false, 0, page, w, seen, wt, told) := by
        rw [hn]
        simp only [f_spec_l4Next.l0, cond_false]
        cases decide (0 < (seen.length : Int)) <;> rfl
      have s2 := impl_skip own true i page w ((i, false) :: wt) 1 ((((i, false) :: wt).length : Int) - 1) 0 seen told (by omega) seen.length N 0 (by omega) fuel
      simp only [Int.natCast_zero] at s2
      obtain ⟨g1, g2⟩ := give_eq h' true false
      simp only [s1, s2, Option.bind_some, show ((1 : Int)).toNat = 1 from rfl, e1, decide_true, cond_true, g1, g2, Bool.false_eq_true, if_false]
      exact ⟨trivial, trivial⟩
def HKs (k : Int) (s : KT) : Prop := HK k s.1 s.2.1 s.2.2.1 s.2.2.2.2.1 s.2.2.2.2.2.2.1 s.2.2.2.2.2.2.2.1 s.2.2.2.2.2.2.2.2.1 s.2.2.2.2.2.2.2.2.2
def SIs (s : KT) : Prop := SI s.2.1 s.2.2.1 s.2.2.2.1 s.2.2.2.2.1 s.2.2.2.2.2.1 s.2.2.2.2.2.2.1
theorem give_si {w : List Int} {own : Int} {seen : List Bool} {who : Int} {ex : Bool} {wait : List (Int × Bool)} {page : Int} {told : List ToldT} (h0 : 0 ≤ who) (ho : own < 0) (hx : ex = true → ∀ j : Nat, (j : Int) ≠ who → seen.getD j false = false) : SIs (giveB w own seen who ex 0 wait page told) := by
  refine ⟨fun ha j => ?_, fun hb => (by cases hb), fun _ => rfl⟩
  show (seen.set who.toNat (!ex)).getD j false = false
  have ha : 0 ≤ (if ex = true then who else own) := ha
  cases ex with
  | false => simp at ha; omega
  | true =>
    by_cases hj : (j : Int) = who
    · rw [List.getD_eq_getElem?_getD, List.getElem?_set]
      rw [if_pos (show who.toNat = j by omega)]
      split <;> rfl
    · rw [List.getD_eq_getElem?_getD, List.getElem?_set, if_neg (by omega), ← List.getD_eq_getElem?_getD]
      exact hx rfl j hj
theorem next_ok {k : Int} {w : List Int} {own : Int} {seen : List Bool} {who need : Int} {i : Int} {ex : Bool} {wt : List (Int × Bool)} {page : Int} {told : List ToldT} (h : HK k w own seen who need ((i, ex) :: wt) page told) :
    HKs k (nextB w own seen i ex need wt page told) ∧ (nextB w own seen i ex need wt page told).2.2.2.2.2.2.2.1 = wt ∧ (∀ ex0, SI own seen false who ex0 need → SIs (nextB w own seen i ex need wt page told)) := by
  have ht := h.tl
  have hq := h.ql
  have hs := h.sl
  have hk := h.k1
  have k0 := h.k0
  have o0 := h.o0
  have hi := h.q (i, ex) (.head _)
  simp only [List.length_cons] at ht hq
  have h' : ∀ m, 0 ≤ m → m ≤ k → HK k w own seen i m wt page told := fun m m0 m1 => ⟨h.k0, h.k1, h.w4, h.ww, h.o0, h.o1, h.sl, hi.1, hi.2, m0, m1, fun e he => h.q e (.tail _ he), by omega, h.p0, h.p1, h.t, by omega⟩
  unfold nextB
  by_cases ho : 0 ≤ own
  · rw [if_pos ho]
    have o1 := h.o1
    refine ⟨?_, rfl, fun ex0 si => ⟨si.a, fun _ => .inl ⟨ho, si.c rfl⟩, fun hb => (by cases hb)⟩⟩
    have := h' need h.n0 h.n1
    refine ⟨this.k0, this.k1, this.w4, this.ww, this.o0, this.o1, this.sl, this.h0, this.h1, this.n0, this.n1, this.q, this.ql, this.p0, this.p1, fun e he => ?_, by simp; omega⟩
    rcases List.mem_append.1 he with he | he
    · exact h.t e he
    · rw [List.mem_singleton.1 he]
      exact ⟨ho, o1, Nat.zero_le _, msg_none 6 page (.inr rfl) h.p0 h.p1 ex (fun _ => rfl)⟩
  · rw [if_neg ho]
    cases ex with
    | true =>
      rw [if_pos rfl]
      have hsc := scan_ok (h' 0 (by omega) (by omega)) (by omega)
      obtain ⟨l1, l2⟩ := scanL_len i page seen 0
      by_cases hz : (scanL i page 0 seen).2.length = 0
      · rw [if_pos hz]
        rw [hz] at hsc
        refine ⟨?_, rfl, fun ex0 si => give_si hi.1 (by omega) fun _ j hj => scanL_other i page seen 0 j (by omega)⟩
        exact give_ok hsc true (by rw [List.length_append]; omega)
      · rw [if_neg hz]
        refine ⟨hsc, rfl, fun ex0 si => ⟨fun ha => absurd ha ho, fun _ => .inr ⟨by show own = -1; omega, by show (0 : Int) < ((scanL i page 0 seen).2.length : Int); omega, rfl, fun j hj => scanL_other i page seen 0 j (by have hj : (j : Int) ≠ i := hj; omega)⟩, fun hb => (by cases hb)⟩⟩
    | false =>
      rw [if_neg (by simp)]
      refine ⟨give_ok (h' 0 (by omega) (by omega)) false (by omega), rfl, fun ex0 si => give_si hi.1 (by omega) fun hx => (by cases hx)⟩
/-- As long as it is not busy and somebody waits. -/
theorem hear_loop {k : Int} (j1 : Int) (j2 : Bool) (j3 : Int) (j4 : Bool) (j5 : Int) (l1 : List Int) (l2 : List Bool) (l3 : List (Int × Bool)) : ∀ (m : Nat) (w : List Int) (own : Int) (seen : List Bool) (busy : Bool) (who : Int) (ex : Bool) (need : Int) (wait : List (Int × Bool)) (page : Int) (told : List ToldT), wait.length = m → HK k w own seen who need wait page told →
    ∃ s : KT, HKs k s ∧ (SI own seen busy who ex need → SIs s) ∧ ∀ n, m < n →
      f_spec_HomeHear.l0 n j1 j2 j3 j4 j5 own busy who ex need page l1 l2 l3 w seen wait told = some (j1, j2, j3, j4, j5, s.2.1, s.2.2.2.1, s.2.2.2.2.1, s.2.2.2.2.2.1, s.2.2.2.2.2.2.1, s.2.2.2.2.2.2.2.2.1, l1, l2, l3, s.1, s.2.2.1, s.2.2.2.2.2.2.2.1, s.2.2.2.2.2.2.2.2.2) ∧
      f_impl_HomeHear.l1 n j1 j2 j3 j4 j5 own busy who ex need page l1 l2 l3 w seen wait told = some (j1, j2, j3, j4, j5, s.2.1, s.2.2.2.1, s.2.2.2.2.1, s.2.2.2.2.2.1, s.2.2.2.2.2.2.1, s.2.2.2.2.2.2.2.2.1, l1, l2, l3, s.1, s.2.2.1, s.2.2.2.2.2.2.2.1, s.2.2.2.2.2.2.2.2.2) := by
  intro m
  induction m with
  | zero =>
    intro w own seen busy who ex need wait page told hm h
    obtain rfl := List.eq_nil_of_length_eq_zero hm
    refine ⟨(w, own, seen, busy, who, ex, need, [], page, told), h, fun h => h, fun n hn => ?_⟩
    obtain ⟨n, rfl⟩ := succ_fuel hn
    simp only [f_spec_HomeHear.l0, f_impl_HomeHear.l1, List.length_nil, decide_eq_false (show ¬ (0 : Int) < ((0 : Nat) : Int) by omega), cond_false]
    cases busy <;> exact ⟨rfl, rfl⟩
  | succ m ih =>
    intro w own seen busy who ex need wait page told hm h
    cases busy with
    | true =>
      refine ⟨(w, own, seen, true, who, ex, need, wait, page, told), h, fun h => h, fun n hn => ?_⟩
      obtain ⟨n, rfl⟩ := succ_fuel hn
      simp only [f_spec_HomeHear.l0, f_impl_HomeHear.l1, Bool.not_true, cond_false]
      exact ⟨trivial, trivial⟩
    | false =>
      cases wait with
      | nil => cases hm
      | cons e wt =>
        obtain ⟨i, ex'⟩ := e
        simp only [List.length_cons, Nat.add_right_cancel_iff] at hm
        obtain ⟨e1, e2⟩ := next_eq h false ex
        obtain ⟨k1, k2, k3⟩ := next_ok h
        generalize nextB w own seen i ex' need wt page told = s at e1 e2 k1 k2 k3
        obtain ⟨s', a1, a2, a3⟩ := ih s.1 s.2.1 s.2.2.1 s.2.2.2.1 s.2.2.2.2.1 s.2.2.2.2.2.1 s.2.2.2.2.2.2.1 s.2.2.2.2.2.2.2.1 s.2.2.2.2.2.2.2.2.1 s.2.2.2.2.2.2.2.2.2 (by rw [k2]; exact hm) k1
        refine ⟨s', a1, fun si => a2 (k3 ex si), fun n hn => ?_⟩
        obtain ⟨n, rfl⟩ := succ_fuel hn
        obtain ⟨b1, b2⟩ := a3 n (by omega)
        simp only [f_spec_HomeHear.l0, f_impl_HomeHear.l1, List.length_cons, decide_eq_true (show (0 : Int) < ((wt.length + 1 : Nat) : Int) by omega), Bool.not_false, cond_true, e1, e2, Option.bind_some, b1, b2]
        exact ⟨trivial, trivial⟩
/-- What a message says to a home; none: nothing. -/
def hear0 (w : List Int) (own : Int) (seen : List Bool) (busy : Bool) (who : Int) (ex : Bool) (need : Int) (wait : List (Int × Bool)) (page : Int) (src kind : Int) (ws : List Int) : Option KT :=
  if kind = 1 ∨ kind = 2 then (if wait.length = 12 then none else some (w, own, seen, busy, who, ex, need, wait ++ [(src, decide (kind = 2))], page, []))
  else if kind = 5 then (if busy = true ∧ need ≠ 0 then (if need - 1 = 0 then some (giveB w own seen who ex 0 wait page []) else some (w, own, seen, busy, who, ex, need - 1, wait, page, [])) else none)
  else if kind = 7 then (if busy = true ∧ need = 0 ∧ src = own then some (giveB ws (-1) (seen.set src.toNat (!ex)) who ex need wait page []) else none)
  else none
/-- Where the two differ: an owner that reads, when the page comes back for one who is to own it. -/
def NB (own : Int) (seen : List Bool) (busy : Bool) (ex : Bool) (need : Int) : Prop := busy = true → need = 0 → ex = true → 0 ≤ own → seen.getD own.toNat false = false
theorem setB_same {x : List Bool} {i : Nat} (h : x.getD i false = false) : x.set i false = x := by
  refine List.ext_getElem? fun j => ?_
  rw [List.getElem?_set]
  split
  · rename_i hj
    subst hj
    split
    · rename_i hi
      rw [List.getD_eq_getElem?_getD, List.getElem?_eq_getElem hi] at h
      rw [List.getElem?_eq_getElem hi]
      exact congrArg some h.symm
    · rename_i hi
      rw [List.getElem?_eq_none (by omega)]
  · rfl
theorem hear0_ok {k : Int} {w : List Int} {own : Int} {seen : List Bool} {busy : Bool} {who : Int} {ex : Bool} {need : Int} {wait : List (Int × Bool)} {page : Int} (h : HK k w own seen who need wait page []) (src kind : Int) (c : Bool) (ws : List Int) (s0 : 0 ≤ src) (s1 : src ≤ k - 1)
    (hn : ws.length ≤ 1048576) (hm : f_spec_MsgOk kind page c ws = some true) {s : KT} (hs : hear0 w own seen busy who ex need wait page src kind ws = some s) : HKs k s ∧ (SI own seen busy who ex need → SIs s) := by
  have ql := h.ql
  have n1 := h.n1
  have n0 := h.n0
  have k0 := h.k0
  unfold hear0 at hs
  split at hs
  · split at hs
    · cases hs
    · rename_i hw
      have := Option.some.inj hs
      subst this
      refine ⟨⟨h.k0, h.k1, h.w4, h.ww, h.o0, h.o1, h.sl, h.h0, h.h1, h.n0, h.n1, fun e he => ?_, by simp; omega, h.p0, h.p1, h.t, by simp; omega⟩, fun si => si⟩
      rcases List.mem_append.1 he with he | he
      · exact h.q e he
      · rw [List.mem_singleton.1 he]; exact ⟨s0, s1⟩
  · split at hs
    · split at hs
      · rename_i hb
        split at hs
        · rename_i hz
          have := Option.some.inj hs
          subst this
          have h' : HK k w own seen who 0 wait page [] := ⟨h.k0, h.k1, h.w4, h.ww, h.o0, h.o1, h.sl, h.h0, h.h1, Int.le_refl _, by omega, h.q, h.ql, h.p0, h.p1, h.t, h.tl⟩
          refine ⟨give_ok h' ex (by simp; omega), fun si => ?_⟩
          rcases si.b hb.1 with ⟨_, h0⟩ | ⟨h1, _, _, h2⟩
          · exact absurd h0 hb.2
          · exact give_si h.h0 (by omega) fun _ => h2
        · rename_i hz
          have := Option.some.inj hs
          subst this
          refine ⟨⟨h.k0, h.k1, h.w4, h.ww, h.o0, h.o1, h.sl, h.h0, h.h1, by show 0 ≤ need - 1; have := hb.2; omega, by show need - 1 ≤ k; omega, h.q, h.ql, h.p0, h.p1, h.t, h.tl⟩, fun si => ⟨si.a, fun hb' => ?_, fun hb' => ?_⟩⟩
          · rcases si.b hb.1 with ⟨_, h0⟩ | ⟨h1, h2, h3, h4⟩
            · exact absurd h0 hb.2
            · exact .inr ⟨h1, by show 0 < need - 1; omega, h3, h4⟩
          · have hb' : busy = false := hb'
            rw [hb.1] at hb'; cases hb'
      · cases hs
    · split at hs
      · split at hs
        · rename_i _ _ hk hb
          have := Option.some.inj hs
          subst this
          subst hk
          obtain ⟨hb1, rfl, hb3⟩ := hb
          obtain ⟨-, -, -, -, m5, m6⟩ := msgOk_facts _ _ _ _ hn hm
          rw [if_pos (.inr rfl)] at m6
          have h' : HK k ws (-1) (seen.set src.toNat (!ex)) who 0 wait page [] := ⟨h.k0, h.k1, m6, m5, by omega, by omega, by rw [List.length_set]; exact h.sl, h.h0, h.h1, Int.le_refl _, by omega, h.q, h.ql, h.p0, h.p1, h.t, h.tl⟩
          refine ⟨give_ok h' ex (by simp; omega), fun si => give_si h.h0 (by omega) fun hx j hj => ?_⟩
          rw [hx, Bool.not_true, setB_same (si.a (by omega) _)]
          exact si.a (by omega) j
        · cases hs
      · cases hs
theorem copyS (x0 : List Int) (x1 : Int) (x2 : List Bool) (x3 : Bool) (x4 : Int) (x5 : Bool) (x6 : Int) (x7 : List (Int × Bool)) (h : HomeS x0 x2 x7) : f_spec_l4Copy x0 x1 x2 x3 x4 x5 x6 x7 = some (x0, x1, x2, x3, x4, x5, x6, x7) ∧ f_impl_copyHome x0 x1 x2 x3 x4 x5 x6 x7 = some (x0, x1, x2, x3, x4, x5, x6, x7) := by
  have g0 := h.g0
  have g2 := h.g2
  have g7 := h.g7
  unfold f_spec_l4Copy f_impl_copyHome
  simp only [f_slices_Clone_int_int, f_slices_Clone_bool_bool, f_slices_Clone_impl_Wait_impl_Wait, List.length_nil, Nat.zero_add, (blt_iff _ _).2 (show x0.length < 17592186044416 by omega), (blt_iff _ _).2 (show x2.length < 140737488355328 by omega), (blt_iff _ _).2 (show x7.length < 8796093022208 by omega), cond_true, List.nil_append, Option.bind_some]
  exact ⟨trivial, trivial⟩
theorem spec_hear0 {k : Int} {w : List Int} {own : Int} {seen : List Bool} {busy : Bool} {who : Int} {ex : Bool} {need : Int} {wait : List (Int × Bool)} {page : Int} (h : HK k w own seen who need wait page []) (src kind pg : Int) (c : Bool) (ws : List Int) (s0 : 0 ≤ src) (s1 : src ≤ k - 1)
    (hn : ws.length ≤ 1048576) (hm : f_spec_MsgOk kind page c ws = some true) : f_spec_l4Hear w own seen busy who ex need wait page [] src kind pg c ws = some (match hear0 w own seen busy who ex need wait page src kind ws with
      | some s => (true, s)
      | none => (false, w, own, seen, busy, who, ex, need, wait, page, [])) := by
  have ql := h.ql
  have n0 := h.n0
  have n1 := h.n1
  have hs := h.sl
  have k1 := h.k1
  have k0 := h.k0
  unfold f_spec_l4Hear hear0
  by_cases h1 : kind = 1
  · subst h1
    by_cases hw : wait.length = 12
    · simp only [decide_true, cond_true, hw, decide_eq_true (show ((12 : Nat) : Int) = 12 by omega), true_or, if_true]
    · simp only [decide_true, cond_true, decide_eq_false (show ¬ (wait.length : Int) = 12 by omega), cond_false, true_or, if_true, if_neg hw, List.length_singleton, (blt_iff _ _).2 (show wait.length + 1 < 8796093022208 by omega), Option.bind_some]
  · by_cases h2 : kind = 2
    · subst h2
      by_cases hw : wait.length = 12
      · simp only [decide_true, cond_true, cond_false, decide_eq_false (show ¬ (2 : Int) = 1 by omega), hw, decide_eq_true (show ((12 : Nat) : Int) = 12 by omega), or_true, if_true]
      · simp only [decide_true, cond_true, cond_false, decide_eq_false (show ¬ (2 : Int) = 1 by omega), decide_eq_false (show ¬ (wait.length : Int) = 12 by omega), or_true, if_true, if_neg hw, List.length_singleton, (blt_iff _ _).2 (show wait.length + 1 < 8796093022208 by omega), Option.bind_some]
    · simp only [decide_eq_false h1, decide_eq_false h2, cond_false, if_neg (show ¬ (kind = 1 ∨ kind = 2) by omega)]
      by_cases h5 : kind = 5
      · simp only [decide_eq_true h5, cond_true, if_pos h5]
        cases busy with
        | false => simp only [Bool.not_false, cond_true, Bool.false_eq_true, false_and, if_false]
        | true =>
          by_cases hz : need = 0
          · subst hz
            simp only [Bool.not_true, cond_false, decide_true, cond_true, ne_eq, not_true_eq_false, and_false, if_false]
          · rw [if_pos (⟨rfl, hz⟩ : true = true ∧ need ≠ 0)]
            simp only [Bool.not_true, cond_false, decide_eq_false hz, w64 (show -9223372036854775808 ≤ need - 1 by omega) (by omega)]
            by_cases hy : need - 1 = 0
            · have h' : HK k w own seen who 0 wait page [] := ⟨h.k0, h.k1, h.w4, h.ww, h.o0, h.o1, h.sl, h.h0, h.h1, Int.le_refl _, by omega, h.q, h.ql, h.p0, h.p1, h.t, h.tl⟩
              simp only [hy, decide_true, cond_true, (give_eq h' true ex).1, Option.bind_some, if_true]
            · simp only [decide_eq_false hy, cond_false, if_neg hy]
      · by_cases h7 : kind = 7
        · subst h7
          simp only [decide_eq_false h5, cond_false, if_neg h5, decide_true, cond_true, if_true]
          cases busy with
          | false => simp only [Bool.not_false, cond_true, Bool.false_eq_true, false_and, if_false]
          | true =>
            by_cases hz : need = 0
            · subst hz
              by_cases ho : src = own
              · obtain rfl : own = src := ho.symm
                obtain ⟨-, -, -, -, m5, m6⟩ := msgOk_facts _ _ _ _ hn hm
                rw [if_pos (.inr rfl)] at m6
                have h' : HK k ws (-1) (seen.set own.toNat (!ex)) who 0 wait page [] := ⟨h.k0, h.k1, m6, m5, by omega, by omega, by rw [List.length_set]; exact h.sl, h.h0, h.h1, Int.le_refl _, by omega, h.q, h.ql, h.p0, h.p1, h.t, h.tl⟩
                rw [if_pos (⟨rfl, rfl, rfl⟩ : true = true ∧ (0 : Int) = 0 ∧ own = own)]
                simp only [Bool.not_true, cond_false, decide_eq_false (show ¬ (0 : Int) < 0 by omega), decide_true, List.length_nil, Nat.zero_add, (blt_iff _ _).2 (show ws.length < 17592186044416 by omega), cond_true, List.nil_append, Option.bind_some, decide_eq_true s0, decide_eq_true (show own < (seen.length : Int) by omega), Bool.and_self, (give_eq h' true ex).1]
              · rw [if_neg (fun h => ho h.2.2)]
                simp only [Bool.not_true, cond_false, decide_eq_false (show ¬ (0 : Int) < 0 by omega), decide_eq_false ho, Bool.not_false, cond_true]
            · rw [if_neg (fun h => hz h.2.1)]
              simp only [Bool.not_true, cond_false, decide_eq_true (show 0 < need by omega), cond_true]
        · simp only [decide_eq_false h5, decide_eq_false h7, cond_false, if_neg h5, if_neg h7]
theorem impl_hear0 {k : Int} {w : List Int} {own : Int} {seen : List Bool} {busy : Bool} {who : Int} {ex : Bool} {need : Int} {wait : List (Int × Bool)} {page : Int} (h : HK k w own seen who need wait page []) (nb : NB own seen busy ex need) (src kind pg : Int) (c : Bool) (ws : List Int) (s0 : 0 ≤ src) (s1 : src ≤ k - 1)
    (hn : ws.length ≤ 1048576) (hm : f_spec_MsgOk kind page c ws = some true) (fl : Bool) (hfl : fl = (decide (kind = 1 ∨ kind = 2) && decide ((wait.length : Int) < 12))) (j1 : Int) (j2 : Bool) (j3 : Int) (j4 : Bool) (j5 : Int) (l1 : List Int) (l2 : List Bool) (l3 : List (Int × Bool)) :
    f_impl_HomeHear.j0 src fl w own seen busy who ex need wait kind pg c ws j1 j2 j3 j4 j5 own busy who ex need page l1 l2 l3 w seen wait [] = some (match hear0 w own seen busy who ex need wait page src kind ws with
      | some s => .inl (j1, j2, j3, j4, j5, s.2.1, s.2.2.2.1, s.2.2.2.2.1, s.2.2.2.2.2.1, s.2.2.2.2.2.2.1, s.2.2.2.2.2.2.2.2.1, l1, l2, l3, s.1, s.2.2.1, s.2.2.2.2.2.2.2.1, s.2.2.2.2.2.2.2.2.2)
      | none => .inr (own, busy, who, ex, need, w, seen, wait)) := by
  have ql := h.ql
  have n0 := h.n0
  have n1 := h.n1
  have hs := h.sl
  have k1 := h.k1
  have k0 := h.k0
  have w4 := h.w4
  have hS : HomeS w seen wait := ⟨by omega, by omega, by omega⟩
  have hc := (copyS w own seen busy who ex need wait hS).2
  have h' : HK k w own seen who 0 wait page [] := ⟨h.k0, h.k1, h.w4, h.ww, h.o0, h.o1, h.sl, h.h0, h.h1, Int.le_refl _, by omega, h.q, h.ql, h.p0, h.p1, h.t, h.tl⟩
  unfold f_impl_HomeHear.j0 hear0
  by_cases h12 : kind = 1 ∨ kind = 2
  · rw [if_pos h12]
    rw [decide_eq_true h12, Bool.true_and] at hfl
    subst hfl
    by_cases hw : wait.length = 12
    · rw [if_pos hw]
      simp only [decide_eq_false (show ¬ (wait.length : Int) < 12 by omega), cond_false, decide_eq_false (show ¬ kind = 5 by omega), decide_eq_false (show ¬ kind = 7 by omega), hc, Option.bind_some]
    · rw [if_neg hw]
      simp only [decide_eq_true (show (wait.length : Int) < 12 by omega), cond_true, List.length_singleton, (blt_iff _ _).2 (show wait.length + 1 < 8796093022208 by omega), Option.bind_some]
  · rw [if_neg h12]
    rw [decide_eq_false h12, Bool.false_and] at hfl
    subst hfl
    simp only [cond_false]
    by_cases h5 : kind = 5
    · rw [if_pos h5]
      simp only [decide_eq_true h5, cond_true, decide_eq_false (show ¬ kind = 7 by omega), cond_false, hc, Option.bind_some]
      cases busy with
      | false => rw [if_neg (fun h => by cases h.1)]; rfl
      | true =>
        by_cases hz : need = 0
        · rw [if_neg (fun h => h.2 hz)]
          simp only [cond_true, decide_eq_false (show ¬ (0 : Int) < need by omega), cond_false]
        · rw [if_pos (⟨rfl, hz⟩ : true = true ∧ need ≠ 0)]
          simp only [cond_true, decide_eq_true (show (0 : Int) < need by omega), w64 (show -9223372036854775808 ≤ need - 1 by omega) (by omega)]
          by_cases hy : need - 1 = 0
          · simp only [hy, decide_true, cond_true, (give_eq h' true ex).2, Option.bind_some, if_true]
          · simp only [decide_eq_false hy, cond_false, if_neg hy]
    · rw [if_neg h5]
      simp only [decide_eq_false h5, cond_false]
      by_cases h7 : kind = 7
      · rw [if_pos h7]
        simp only [decide_eq_true h7, cond_true, hc, Option.bind_some]
        cases busy with
        | false => rw [if_neg (fun h => by cases h.1)]; rfl
        | true =>
          by_cases ho : src = own
          · by_cases hz : need = 0
            · subst h7
              subst hz
              obtain rfl : own = src := ho.symm
              obtain ⟨-, -, -, -, m5, m6⟩ := msgOk_facts _ _ _ _ hn hm
              rw [if_pos (.inr rfl)] at m6
              have h7' : HK k ws (-1) (seen.set own.toNat (!ex)) who 0 wait page [] := ⟨h.k0, h.k1, m6, m5, by omega, by omega, by rw [List.length_set]; exact h.sl, h.h0, h.h1, Int.le_refl _, by omega, h.q, h.ql, h.p0, h.p1, h.t, h.tl⟩
              rw [if_pos (⟨rfl, rfl, rfl⟩ : true = true ∧ (0 : Int) = 0 ∧ own = own)]
              simp only [decide_true, cond_true, f_slices_Clone_int_int, Nat.zero_add, (blt_iff _ _).2 (show ws.length < 17592186044416 by omega), Option.bind_some]
              cases ex with
              | false =>
                simp only [Bool.not_false, cond_true, decide_eq_true s0, decide_eq_true (show own < (seen.length : Int) by omega), Bool.and_self]
                have := (give_eq h7' true false).2
                simp only [Bool.not_false] at this
                simp only [this, Option.bind_some]
              | true =>
                have e := setB_same (nb rfl rfl rfl s0)
                have := (give_eq h7' true true).2
                simp only [Bool.not_true, e] at this
                simp only [Bool.not_true, cond_false, this, Option.bind_some, e]
            · rw [if_neg (fun h => hz h.2.1)]
              simp only [decide_eq_true ho, cond_true, decide_eq_false hz, cond_false]
          · rw [if_neg (fun h => ho h.2.2)]
            simp only [cond_true, decide_eq_false ho, cond_false]
      · rw [if_neg h7]
        simp only [decide_eq_false h7, cond_false, hc, Option.bind_some]
theorem HK_of {x0 : List Int} {x1 : Int} {x2 : List Bool} {x4 x6 : Int} {x7 : List (Int × Bool)} {k : Int} (h : homeOkB x0 x1 x2 x4 x6 x7 k = true) (page : Int) (p0 : 0 ≤ page) (p1 : page ≤ 5) : HK k x0 x1 x2 x4 x6 x7 page [] := by
  unfold homeOkB rng2 at h
  simp only [Bool.and_eq_true, decide_eq_true_eq, List.all_eq_true] at h
  obtain ⟨⟨⟨⟨⟨⟨⟨h1, h2, h3⟩, h4⟩, h5⟩, h6⟩, h7⟩, h8⟩, h9⟩ := h
  exact ⟨h1.1, h1.2, by omega, h2, h4.1, h4.2, h5, h6.1, h6.2, h7.1, h7.2, h9, by omega, p0, p1, fun e he => (by cases he), by simp; omega⟩
theorem HK_to {w : List Int} {own : Int} {seen : List Bool} {who need : Int} {wait : List (Int × Bool)} {page : Int} {told : List ToldT} {k : Int} (h : HK k w own seen who need wait page told) : homeOkB w own seen who need wait k = true := by
  unfold homeOkB rng2
  simp only [Bool.and_eq_true, decide_eq_true_eq, List.all_eq_true]
  have := h.w4
  have := h.ql
  exact ⟨⟨⟨⟨⟨⟨⟨⟨h.k0, h.k1⟩, h.ww, by omega⟩, h.o0, h.o1⟩, h.sl⟩, h.h0, h.h1⟩, h.n0, h.n1⟩, by omega⟩, h.q⟩
abbrev HR := List Int × Int × List Bool × Bool × Int × Bool × Int × List (Int × Bool) × List ToldT
def HearR (x0 : List Int) (x1 : Int) (x2 : List Bool) (x3 : Bool) (x4 : Int) (x5 : Bool) (x6 : Int) (x7 : List (Int × Bool)) (k : Int) (f g : Option HR) : Prop :=
    ∃ r : HR, f = some r ∧ (NB x1 x2 x3 x5 x6 → g = some r) ∧
      (homeOkB x0 x1 x2 x4 x6 x7 k = true → homeOkB r.1 r.2.1 r.2.2.1 r.2.2.2.2.1 r.2.2.2.2.2.2.1 r.2.2.2.2.2.2.2.1 k = true ∧ (SI x1 x2 x3 x4 x5 x6 → SI r.2.1 r.2.2.1 r.2.2.2.1 r.2.2.2.2.1 r.2.2.2.2.2.1 r.2.2.2.2.2.2.1)) ∧
      HomeS r.1 r.2.2.1 r.2.2.2.2.2.2.2.1 ∧ r.2.2.2.2.2.2.2.2.length ≤ 120 ∧ (∀ e ∈ r.2.2.2.2.2.2.2.2, okT k e) ∧ (homeOkB x0 x1 x2 x4 x6 x7 k = false → r.2.2.2.2.2.2.2.2 = [])
theorem same_hear (x0 : List Int) (x1 : Int) (x2 : List Bool) (x3 : Bool) (x4 : Int) (x5 : Bool) (x6 : Int) (x7 : List (Int × Bool)) (k page src kind pg : Int) (c : Bool) (ws : List Int) (hS : HomeS x0 x2 x7) (hn : ws.length ≤ 1048576) :
    HearR x0 x1 x2 x3 x4 x5 x6 x7 k (f_spec_HomeHear x0 x1 x2 x3 x4 x5 x6 x7 k page src kind pg c ws) (f_impl_HomeHear x0 x1 x2 x3 x4 x5 x6 x7 k page src kind pg c ws) := by
  obtain ⟨c1, c2⟩ := copyS x0 x1 x2 x3 x4 x5 x6 x7 hS
  obtain ⟨b, m1, m2⟩ := same_msgOk kind pg c ws hn
  unfold f_spec_HomeHear f_impl_HomeHear
  simp only [c1, c2, specHomeOk x0 x1 x2 x3 x4 x5 x6 x7 k hS, implHomeOk x0 x1 x2 x3 x4 x5 x6 x7 k hS, m1, m2, in_rng2, Option.bind_some]
  have same : ∀ f g : Option HR, f = some (x0, x1, x2, x3, x4, x5, x6, x7, []) → (NB x1 x2 x3 x5 x6 → g = some (x0, x1, x2, x3, x4, x5, x6, x7, [])) → HearR x0 x1 x2 x3 x4 x5 x6 x7 k f g :=
    fun f g hf hg => ⟨_, hf, hg, fun h => ⟨h, fun h => h⟩, hS, Nat.zero_le _, fun e he => (by cases he), fun _ => rfl⟩
  cases hok : homeOkB x0 x1 x2 x4 x6 x7 k with
  | false => simp only [Bool.not_false, cond_true]; exact same _ _ rfl fun _ => rfl
  | true =>
    simp only [Bool.not_true, cond_false]
    cases b with
    | false => simp only [Bool.not_false, cond_true]; exact same _ _ rfl fun _ => rfl
    | true =>
      obtain ⟨f1, f2, p0, p1, -, -⟩ := msgOk_facts _ _ _ _ hn m1
      have hk := HK_of hok pg p0 p1
      have k0 := hk.k0
      have k1 := hk.k1
      simp only [Bool.not_true, cond_false, isOf_rng src k k0 k1, w64 (show -9223372036854775808 ≤ k - 1 by omega) (by omega), Option.bind_some]
      cases hr : rng2 0 src (k - 1) with
      | false => simp only [Bool.not_false, cond_true]; exact same _ _ rfl fun _ => rfl
      | true =>
        unfold rng2 at hr
        simp only [Bool.and_eq_true, decide_eq_true_eq] at hr
        by_cases hp : page = pg
        · subst hp
          simp only [decide_true, Bool.not_true, cond_false, spec_hear0 hk src kind page c ws hr.1 hr.2 hn m1, Option.bind_some]
          have ij := fun nb fl hfl => impl_hear0 hk (busy := x3) (ex := x5) nb src kind page c ws hr.1 hr.2 hn m1 fl hfl 0 false 0 false 0 [] [] []
          have ok0 := fun s => @hear0_ok k x0 x1 x2 x3 x4 x5 x6 x7 page hk src kind c ws hr.1 hr.2 hn m1 s
          generalize hear0 x0 x1 x2 x3 x4 x5 x6 x7 page src kind ws = o at ij ok0
          cases o with
          | none =>
            simp only [Bool.not_false, cond_true]
            refine same _ _ rfl fun nb => ?_
            by_cases k1' : kind = 1
            · simp only [decide_eq_true k1', cond_true, ij nb _ (by rw [decide_eq_true (.inl k1'), Bool.true_and]), Option.bind_some, cs]
            · by_cases k2' : kind = 2
              · simp only [decide_eq_false k1', decide_eq_true k2', cond_true, cond_false, ij nb _ (by rw [decide_eq_true (.inr k2'), Bool.true_and]), Option.bind_some, cs]
              · simp only [decide_eq_false k1', decide_eq_false k2', cond_false, ij nb false (by rw [decide_eq_false (show ¬ (kind = 1 ∨ kind = 2) by omega), Bool.false_and]), Option.bind_some, cs]
          | some s =>
            obtain ⟨a1, a2⟩ := ok0 s rfl
            obtain ⟨s', b1, b2, b3⟩ := hear_loop 0 false 0 false 0 [] [] [] s.2.2.2.2.2.2.2.1.length s.1 s.2.1 s.2.2.1 s.2.2.2.1 s.2.2.2.2.1 s.2.2.2.2.2.1 s.2.2.2.2.2.2.1 s.2.2.2.2.2.2.2.1 s.2.2.2.2.2.2.2.2.1 s.2.2.2.2.2.2.2.2.2 rfl a1
            have hfu := a1.ql
            obtain ⟨d1, d2⟩ := b3 N (Nat.lt_of_le_of_lt hfu (Nat.lt_trans (by omega) big))
            refine ⟨(s'.1, s'.2.1, s'.2.2.1, s'.2.2.2.1, s'.2.2.2.2.1, s'.2.2.2.2.2.1, s'.2.2.2.2.2.2.1, s'.2.2.2.2.2.2.2.1, s'.2.2.2.2.2.2.2.2.2), ?_, fun nb => ?_, fun _ => ⟨HK_to b1, fun si => b2 (a2 si)⟩, ?_, ?_, b1.t, fun h => (by rw [hok] at h; cases h)⟩
            · simp only [Bool.not_true, cond_false, d1, Option.bind_some]
            · by_cases k1' : kind = 1
              · simp only [decide_eq_true k1', cond_true, ij nb _ (by rw [decide_eq_true (.inl k1'), Bool.true_and]), Option.bind_some, cs, d2]
              · by_cases k2' : kind = 2
                · simp only [decide_eq_false k1', decide_eq_true k2', cond_true, cond_false, ij nb _ (by rw [decide_eq_true (.inr k2'), Bool.true_and]), Option.bind_some, cs, d2]
                · simp only [decide_eq_false k1', decide_eq_false k2', cond_false, ij nb false (by rw [decide_eq_false (show ¬ (kind = 1 ∨ kind = 2) by omega), Bool.false_and]), Option.bind_some, cs, d2]
            · have := b1.w4; have := b1.sl; have := b1.ql
              exact ⟨by show s'.1.length ≤ _; omega, by show s'.2.2.1.length ≤ _; omega, by show s'.2.2.2.2.2.2.2.1.length ≤ _; omega⟩
            · have := b1.tl
              show s'.2.2.2.2.2.2.2.2.2.length ≤ 120
              omega
        · simp only [decide_eq_false hp, decide_eq_false (show ¬ pg = page from fun h => hp h.symm), Bool.not_false, cond_true]
          exact same _ _ rfl fun _ => rfl
def homeNew (k : Int) : HomeT := (List.replicate 4 0, -1, List.replicate k.toNat false, false, 0, false, 0, [])
def nodeNewB (x0 k : Int) : Int × List FrameT × List HomeT × List SenderT × List Int × Bool := if (1 ≤ k ∧ k ≤ 4) ∧ 0 ≤ x0 ∧ x0 ≤ k - 1 then (x0, List.replicate 6 (0, [], false), List.replicate 6 (homeNew k), List.replicate k.toNat (0, []), List.replicate k.toNat 0, true) else (0, [], [], [], [], false)
theorem specHomeNew (k : Int) (h0 : 1 ≤ k) (h1 : k ≤ 4) : f_spec_HomeNew k = some (homeNew k) := by
  unfold f_spec_HomeNew homeNew
  have hr : rg k 1 4 = true := by unfold rg; rw [decide_eq_true h0, decide_eq_true h1]; rfl
  simp only [in_rg, hr, Option.bind_some, Bool.not_true, cond_false, decide_eq_true (show 0 ≤ k by omega), show Nat.ble k.toNat 140737488355328 = true from Nat.ble_eq_true_of_le (by omega), Bool.and_self, cond_true]
theorem specNodeNew (x0 k : Int) : f_spec_NodeNew x0 k = some (nodeNewB x0 k) := by
  unfold f_spec_NodeNew nodeNewB
  simp only [in_rg, Option.bind_some]
  by_cases hk : 1 ≤ k ∧ k ≤ 4
  · have hr : rg k 1 4 = true := by unfold rg; rw [decide_eq_true hk.1, decide_eq_true hk.2]; rfl
    rw [hr, w64 (show -9223372036854775808 ≤ k - 1 by omega) (by omega)]
    by_cases hx : 0 ≤ x0 ∧ x0 ≤ k - 1
    · have hr2 : rg x0 0 (k - 1) = true := by unfold rg; rw [decide_eq_true hx.1, decide_eq_true hx.2]; rfl
      obtain ⟨n, hn⟩ : ∃ n, N = n + 7 := ⟨N - 7, rfl⟩
      rw [hr2, if_pos ⟨hk, hx.1, hx.2⟩, hn]
      simp only [Bool.not_true, cond_false, decide_eq_true (show 0 ≤ k by omega), show Nat.ble k.toNat 4398046511104 = true from Nat.ble_eq_true_of_le (by omega), show Nat.ble k.toNat 17592186044416 = true from Nat.ble_eq_true_of_le (by omega), Bool.and_self, cond_true, f_spec_NodeNew.l0, specHomeNew k hk.1 hk.2, Option.bind_some]
      rfl
    · have hr2 : rg x0 0 (k - 1) = false := by
        unfold rg
        by_cases h : 0 ≤ x0
        · rw [decide_eq_true h, decide_eq_false (fun h' => hx ⟨h, h'⟩)]; rfl
        · rw [decide_eq_false h]; rfl
      rw [hr2, if_neg (fun h => hx h.2)]
      rfl
  · have hr : rg k 1 4 = false := by
      unfold rg
      by_cases h : 1 ≤ k
      · rw [decide_eq_true h, decide_eq_false (fun h' => hk ⟨h, h'⟩)]; rfl
      · rw [decide_eq_false h]; rfl
    rw [hr, if_neg (fun h => hk h.1)]
    rfl
theorem sumW_const {α : Type} (W : α → Int) (a : α) : ∀ n : Nat, sumW W (List.replicate n a) = n * W a
  | 0 => by simp [sumW]
  | n + 1 => by rw [List.replicate_succ]; simp only [sumW, sumW_const W a n]; rw [Int.natCast_add, Int.add_mul]; omega
theorem nodeNew_ok (x0 k : Int) : NodeK (nodeNewB x0 k).2.1 (nodeNewB x0 k).2.2.1 (nodeNewB x0 k).2.2.2.1 (nodeNewB x0 k).2.2.2.2.1 ∧ wNode (nodeNewB x0 k).2.1 (nodeNewB x0 k).2.2.1 (nodeNewB x0 k).2.2.2.1 (nodeNewB x0 k).2.2.2.2.1 ≤ 1000 := by
  unfold nodeNewB
  by_cases h : (1 ≤ k ∧ k ≤ 4) ∧ 0 ≤ x0 ∧ x0 ≤ k - 1
  · rw [if_pos h]
    refine ⟨⟨by simp, by simp, by simp; omega, by simp; omega, fun e he => ?_, fun e he => ?_, fun e he => ?_⟩, ?_⟩
    · rw [List.eq_of_mem_replicate he]; exact Nat.zero_le _
    · rw [List.eq_of_mem_replicate he]; exact ⟨by simp [homeNew], by simp [homeNew]; omega, by simp [homeNew]⟩
    · rw [List.eq_of_mem_replicate he]; exact ⟨Nat.zero_le _, fun f hf => by cases hf⟩
    · unfold wNode
      rw [sumW_const, sumW_const, sumW_const, List.length_replicate]
      simp only [wFrame, wHome, homeNew, wSender, sumW, List.length_replicate, List.length_nil]
      omega
  · rw [if_neg h]
    exact ⟨⟨by simp, by simp, by simp, by simp, fun e he => (by cases he), fun e he => (by cases he), fun e he => (by cases he)⟩, by simp [wNode, sumW]⟩
def nodeAt (k j : Nat) : NodeT := ((j : Int), List.replicate 6 (0, [], false), List.replicate 6 (homeNew (k : Int)), List.replicate k (0, []), List.replicate k 0)
def worldNewB (x0 : Int) : Int × List NodeT × List PacketT × Bool := if 1 ≤ x0 ∧ x0 ≤ 4 then (x0, (List.range x0.toNat).map (nodeAt x0.toNat), [], true) else (0, [], [], false)
theorem nodeNewB_at (k j : Nat) (h1 : 1 ≤ k) (h2 : k ≤ 4) (hj : j < k) : nodeNewB (j : Int) (k : Int) = ((nodeAt k j).1, (nodeAt k j).2.1, (nodeAt k j).2.2.1, (nodeAt k j).2.2.2.1, (nodeAt k j).2.2.2.2, true) := by
  unfold nodeNewB nodeAt
  rw [if_pos (by omega)]
  simp
theorem specWorldNew (x0 : Int) : f_spec_WorldNew x0 = some (worldNewB x0) := by
  unfold f_spec_WorldNew worldNewB
  simp only [in_rg, Option.bind_some]
  by_cases h : 1 ≤ x0 ∧ x0 ≤ 4
  · obtain ⟨k, rfl⟩ : ∃ k : Nat, x0 = k := ⟨x0.toNat, by omega⟩
    have hr : rg (k : Int) 1 4 = true := by unfold rg; rw [decide_eq_true h.1, decide_eq_true h.2]; rfl
    have hl : ∀ (r j n : Nat) (x : List NodeT), j + r = k → r < n → x.length = j → f_spec_WorldNew.l0 n (k : Int) false (j : Int) 0 (k : Int) [] [] x [] = some (false, 0, (k : Int), [], [], x ++ ((List.range' j r).map (nodeAt k)), []) := by
      intro r
      induction r with
      | zero => intro j n x hj hn hx; obtain ⟨m, rfl⟩ : ∃ m, n = m + 1 := ⟨n - 1, by omega⟩; obtain rfl : j = k := by omega
                simp only [f_spec_WorldNew.l0, decide_eq_false (show ¬ (j : Int) < (j : Int) by omega), cond_false, List.range'_zero, List.map_nil, List.append_nil]
      | succ r ih =>
        intro j n x hj hn hx
        obtain ⟨m, rfl⟩ : ∃ m, n = m + 1 := ⟨n - 1, by omega⟩
        simp only [f_spec_WorldNew.l0, decide_eq_true (show (j : Int) < (k : Int) by omega), cond_true, specNodeNew, Option.bind_some, nodeNewB_at k j (by omega) (by omega) (by omega)]
        rw [show Nat.blt (x.length + _) 1353245080339 = true from Nat.ble_eq_true_of_le (show _ + 1 ≤ _ by simp only [List.length_cons, List.length_nil]; omega), w64 (show -9223372036854775808 ≤ (j : Int) + 1 by omega) (by omega), cond_true, show ((j : Int) + 1) = ((j + 1 : Nat) : Int) by omega, ih (j + 1) m _ (by omega) (by omega) (by simp [hx]), List.range'_succ, List.map_cons, List.append_assoc]
        rfl
    have := hl k 0 N [] (by omega) (Nat.lt_of_le_of_lt (show k ≤ 4 by omega) (Nat.lt_trans (by omega) big)) rfl
    rw [hr, if_pos h]
    simp only [Bool.not_true, cond_false]
    rw [show f_spec_WorldNew.l0 N (k : Int) false 0 0 (k : Int) [] [] [] [] = _ from this]
    simp [List.range_eq_range']
  · have hr : rg x0 1 4 = false := by
      unfold rg
      by_cases h' : 1 ≤ x0
      · rw [decide_eq_true h', decide_eq_false (fun h2 => h ⟨h', h2⟩)]; rfl
      · rw [decide_eq_false h']; rfl
    rw [hr, if_neg h]
    rfl
theorem worldNew_ok (x0 : Int) : (worldNewB x0).2.1.length ≤ 4 ∧ (worldNewB x0).2.2.1 = [] ∧ (∀ e ∈ (worldNewB x0).2.1, okNode e) ∧ sumW wNodeE (worldNewB x0).2.1 ≤ 4004 := by
  unfold worldNewB
  by_cases h : 1 ≤ x0 ∧ x0 ≤ 4
  · rw [if_pos h]
    obtain ⟨k, rfl⟩ : ∃ k : Nat, x0 = k := ⟨x0.toNat, by omega⟩
    have hk : ∀ e ∈ (List.range k).map (nodeAt k), okNode e ∧ wNodeE e ≤ 1001 := by
      intro e he
      obtain ⟨j, hj, rfl⟩ := List.mem_map.mp he
      have hj := List.mem_range.mp hj
      obtain ⟨a, b⟩ := nodeNew_ok (j : Int) (k : Int)
      rw [nodeNewB_at k j (by omega) (by omega) hj] at a b
      exact ⟨a, show 1 + wNode _ _ _ _ ≤ 1001 by simp only at b; omega⟩
    refine ⟨by simp; omega, rfl, fun e he => (hk e he).1, ?_⟩
    have := sumW_le (W := wNodeE) (M := 1001) ((List.range k).map (nodeAt k)) (fun e he => (hk e he).2)
    simp only [List.length_map, List.length_range] at this
    show sumW wNodeE ((List.range k).map (nodeAt k)) ≤ 4004
    omega
  · rw [if_neg h]
    exact ⟨by simp, rfl, fun e he => (by cases he), by simp [sumW]⟩
theorem and8 (n : Int) : bitI .and .i64 n 255 = n % 256 := by
  have h : (BitVec.ofInt 64 n &&& BitVec.ofInt 64 255).toNat = (n % 18446744073709551616).toNat % 256 := by
    rw [BitVec.toNat_and, BitVec.toNat_ofInt]
    show (n % 18446744073709551616).toNat &&& (2 ^ 8 - 1) = _
    rw [Nat.and_two_pow_sub_one_eq_mod]
  show IntKind.wrap .i64 ((BitVec.ofInt 64 n &&& BitVec.ofInt 64 255).toNat : Int) = _
  rw [h, w64 (by omega) (by omega)]
  omega
theorem draw_byte (x : List Int) (hn : x.length ≤ 1048576) (p s : Int) (hp : 0 ≤ p) : ∃ b p' s', f_spec_l1Byte x p s = some (b, p', s') ∧ 0 ≤ b ∧ b ≤ 255 ∧ 0 ≤ p' := by
  unfold f_spec_l1Byte
  simp only [and8]
  by_cases h : p < (x.length : Int)
  · rw [decide_eq_true h, decide_eq_true hp, w64 (show -9223372036854775808 ≤ p + 1 by omega) (by omega)]
    exact ⟨_, _, _, rfl, by omega, by omega, by omega⟩
  · rw [decide_eq_false h]
    exact ⟨_, _, _, rfl, by omega, by omega, hp⟩
theorem draw_below (x : List Int) (hn : x.length ≤ 1048576) (p s n : Int) (hp : 0 ≤ p) : ∃ r p' s', f_spec_l1Below x p s n = some (r, p', s') ∧ 0 ≤ p' ∧ 0 ≤ r ∧ (0 < n → r < n) ∧ (n ≤ 0 → r = 0) := by
  unfold f_spec_l1Below
  by_cases h0 : n ≤ 0
  · rw [decide_eq_true h0]
    exact ⟨_, _, _, rfl, hp, Int.le_refl _, fun h => by omega, fun _ => rfl⟩
  · rw [decide_eq_false h0, cond_false, decide_eq_false (show ¬ n = 0 by omega)]
    have hm : ∀ b, 0 ≤ b → 0 ≤ Int.tmod b n ∧ Int.tmod b n < n := fun b hb => by
      rw [Int.tmod_eq_emod_of_nonneg hb]
      exact ⟨Int.emod_nonneg _ (by omega), Int.emod_lt_of_pos _ (by omega)⟩
    by_cases h1 : n ≤ 256
    · obtain ⟨b, p', s', e, b0, b1, q⟩ := draw_byte x hn p s hp
      rw [decide_eq_true h1, e]
      exact ⟨_, _, _, rfl, q, (hm b b0).1, fun _ => (hm b b0).2, fun h => absurd h h0⟩
    · obtain ⟨b, p1, s1, e1, b0, b1, q1⟩ := draw_byte x hn p s hp
      obtain ⟨c, p2, s2, e2, c0, c1, q2⟩ := draw_byte x hn p1 s1 q1
      obtain ⟨d, p3, s3, e3, d0, d1, q3⟩ := draw_byte x hn p2 s2 q2
      obtain ⟨e, p4, s4, e4, f0, f1, q4⟩ := draw_byte x hn p3 s3 q3
      rw [decide_eq_false h1, cond_false, e1, Option.bind_some]
      simp only [e2, e3, e4, Option.bind_some, cond_false]
      rw [w64 (show -9223372036854775808 ≤ b * 16777216 by omega) (by omega), w64 (show -9223372036854775808 ≤ c * 65536 by omega) (by omega), w64 (show -9223372036854775808 ≤ d * 256 by omega) (by omega), w64 (show -9223372036854775808 ≤ b * 16777216 + c * 65536 by omega) (by omega), w64 (show -9223372036854775808 ≤ b * 16777216 + c * 65536 + d * 256 by omega) (by omega), w64 (show -9223372036854775808 ≤ b * 16777216 + c * 65536 + d * 256 + e by omega) (by omega)]
      have := hm (b * 16777216 + c * 65536 + d * 256 + e) (by omega)
      exact ⟨_, _, _, rfl, q4, this.1, fun _ => this.2, fun h => absurd h h0⟩
end Go.Abs
