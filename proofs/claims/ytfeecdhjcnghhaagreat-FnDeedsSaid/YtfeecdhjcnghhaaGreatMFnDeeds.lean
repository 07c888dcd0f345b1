import Derived.Test.YtfeecdhjcnghhaaGreatProg
import Derived.Test.YtfeecdhjcnghhaaGreatAbtF
import Derived.KernelRfl
import Derived.Test.YtfeecdhjcnghhaaGreatMFnDeedsb
namespace Go.Abs
open Go.Proofs
set_option linter.unusedVariables false
set_option maxRecDepth 100000
noncomputable section
noncomputable def f_impl_World_do (x0 : Int) (x1 : tyN) (x2 : tyP) (x3 : Int) (x4 : Int) (x5 : Int) (x6 : Int) : Option (Int × Int × tyN × tyP) :=
 bif (decide (x3 = (1 : Int))) then
 (f_impl_World_send x0 x1 x2 x3 x4 x5 x6).bind fun y0 =>
 some (y0.1, y0.2.1, y0.2.2.1, y0.2.2.2)
 else
 bif (decide (x3 = (2 : Int))) then
 bif (decide ((x2.length : Int) = (40 : Int))) then
 some (4, x0, x1, x2)
 else
 bif ((decide ((0 : Int) ≤ x4)) && (decide (x4 < (x1.length : Int)))) then
 bif ((decide ((0 : Int) ≤ x5)) && (decide (x5 < (((x1.getD x4.toNat (0, [], [], [], [])).2.2.2.2).length : Int)))) then
 bif (Nat.blt (x2.length + ([(x4, x5, true, (((x1.getD x4.toNat (0, [], [], [], [])).2.2.2.2).getD x5.toNat 0), 0, 0, false, [])] : tyP).length) 1759218604441) then
 (some ((x2 ++ ([(x4, x5, true, (((x1.getD x4.toNat (0, [], [], [], [])).2.2.2.2).getD x5.toNat 0), 0, 0, false, [])] : tyP)) : tyP)).bind fun z1 =>
 some (0, x0, x1, z1)
 else none
 else none
 else none
 else
 bif (decide (x3 = (3 : Int))) then
 (f_impl_World_give x0 x1 x2 x4).bind fun y2 =>
 some (0, y2.2.2.2.2.2.2.2.2.2.1, y2.2.2.2.2.2.2.2.2.2.2.1, y2.2.2.2.2.2.2.2.2.2.2.2)
 else
 bif (decide (x3 = (4 : Int))) then
 bif ((decide ((0 : Int) ≤ x4)) && ((decide (x4 ≤ (IntKind.wrap .i64 (x4 + (1 : Int))))) && (decide ((IntKind.wrap .i64 (x4 + (1 : Int))) ≤ (x2.length : Int))))) then
 (some ((x2.take x4.toNat ++ x2.drop (IntKind.wrap .i64 (x4 + (1 : Int))).toNat) : tyP)).bind fun z3 =>
 some (0, x0, x1, z3)
 else none
 else
 bif (decide (x3 = (5 : Int))) then
 bif (decide ((x2.length : Int) = (40 : Int))) then
 some (4, x0, x1, x2)
 else
 bif ((decide ((0 : Int) ≤ x4)) && (decide (x4 < (x2.length : Int)))) then
 (f_impl_copyPacket ((x2.getD x4.toNat (0, 0, false, 0, 0, 0, false, [])).1) ((x2.getD x4.toNat (0, 0, false, 0, 0, 0, false, [])).2.1) ((x2.getD x4.toNat (0, 0, false, 0, 0, 0, false, [])).2.2.1) ((x2.getD x4.toNat (0, 0, false, 0, 0, 0, false, [])).2.2.2.1) ((x2.getD x4.toNat (0, 0, false, 0, 0, 0, false, [])).2.2.2.2.1) ((x2.getD x4.toNat (0, 0, false, 0, 0, 0, false, [])).2.2.2.2.2.1) ((x2.getD x4.toNat (0, 0, false, 0, 0, 0, false, [])).2.2.2.2.2.2.1) ((x2.getD x4.toNat (0, 0, false, 0, 0, 0, false, [])).2.2.2.2.2.2.2)).bind fun y4 =>
 bif (Nat.blt (x2.length + ([(y4.1, y4.2.1, y4.2.2.1, y4.2.2.2.1, y4.2.2.2.2.1, y4.2.2.2.2.2.1, y4.2.2.2.2.2.2.1, y4.2.2.2.2.2.2.2)] : tyP).length) 1759218604441) then
 (some ((x2 ++ ([(y4.1, y4.2.1, y4.2.2.1, y4.2.2.2.1, y4.2.2.2.2.1, y4.2.2.2.2.2.1, y4.2.2.2.2.2.2.1, y4.2.2.2.2.2.2.2)] : tyP)) : tyP)).bind fun z5 =>
 some (0, x0, x1, z5)
 else none
 else none
 else
 bif ((decide ((0 : Int) ≤ x4)) && (decide (x4 < (x1.length : Int)))) then
 (f_impl_Want ((x1.getD x4.toNat (0, [], [], [], [])).1) ((x1.getD x4.toNat (0, [], [], [], [])).2.1) ((x1.getD x4.toNat (0, [], [], [], [])).2.2.1) ((x1.getD x4.toNat (0, [], [], [], [])).2.2.2.1) ((x1.getD x4.toNat (0, [], [], [], [])).2.2.2.2) x0 x5 (decide (x6 = (1 : Int)))).bind fun y6 =>
 bif (!y6.2.2.2.2.2) then
 some (3, x0, x1, x2)
 else
 bif ((decide ((0 : Int) ≤ x4)) && (decide (x4 < (x1.length : Int)))) then
 (some ((x1.set x4.toNat (y6.1, y6.2.1, y6.2.2.1, y6.2.2.2.1, y6.2.2.2.2.1)) : tyN)).bind fun z7 =>
 some (0, x0, z7, x2)
 else none
 else none
noncomputable def C76 : Con := ⟨[(.P [true, true, true], false, [iI, (.sl R8), (.sl R9)]), (.B, true, [iI, iI, iI, iI])], [(false, [iI])], [iI, (.sl R8), (.sl R9), iI, iI, iI, iI], [iI, iI, (.sl R8), (.sl R9)], ap7 f_impl_World_do⟩
noncomputable abbrev K76 : Cons := [(74, C74), (133, C133), (134, C134), (135, C135), (136, C136)]
noncomputable abbrev X76 : Nat → Ctx := ctxOf tb K76 Le Qe
theorem E76 : ∀ x, funG fs X76 6 76 C76 x = C76.fn x := fun x => by kernel_rfl
theorem B76 : ConG Tryz.prog 76 C76 := ConG.make FS MIX TY (cons := K76) (L := Le) (ptrs := Qe) ⟨S74, S133, S134, S135, S136, trivial⟩ trivial trivial rfl (by kernel_rfl) E76
theorem S76 : ConS Tryz.prog 76 C76 := B76.call (by kernel_rfl)
noncomputable def f_impl_worldDo (x0 : Int) (x1 : tyN) (x2 : tyP) (x3 : Int) (x4 : Int) (x5 : Int) (x6 : Int) : Option (Int × tyN × tyP × Int) :=
 (f_impl_from x3 1 6).bind fun y0 =>
 bif (!y0) then
 some (0, [], [], 1)
 else
 (f_impl_named x0 x1 x2 x3 x4 x5 x6).bind fun y1 =>
 bif (!y1) then
 (f_impl_copyWorld x0 x1 x2).bind fun y2 =>
 some (y2.1, y2.2.1, y2.2.2, 2)
 else
 (f_impl_copyWorld x0 x1 x2).bind fun y3 =>
 (f_impl_World_do y3.1 y3.2.1 y3.2.2 x3 x4 x5 x6).bind fun y4 =>
 bif (!(decide (y4.1 = (0 : Int)))) then
 (f_impl_copyWorld x0 x1 x2).bind fun y5 =>
 some (y5.1, y5.2.1, y5.2.2, y4.1)
 else
 some (y4.2.1, y4.2.2.1, y4.2.2.2, 0)
noncomputable def C41 : Con := ⟨[(.B, true, [iI, (.sl R8), (.sl R9)]), (.B, true, [iI, iI, iI, iI])], [(true, [iI, (.sl R8), (.sl R9)]), (false, [iI])], [iI, (.sl R8), (.sl R9), iI, iI, iI, iI], [iI, (.sl R8), (.sl R9), iI], ap7 f_impl_worldDo⟩
noncomputable abbrev K41 : Cons := [(40, C40), (49, C49), (75, C75), (76, C76)]
noncomputable abbrev X41 : Nat → Ctx := ctxOf tb K41 Le Qe
theorem E41 : ∀ x, funRun fs X41 6 41 C41 x = C41.fn x := fun x => by kernel_rfl
theorem B41 : ConB Tryz.prog 41 C41 := ConB.make FS MIX TY (cons := K41) (L := Le) (ptrs := Qe) ⟨S40, S49, S75, S76, trivial⟩ trivial trivial rfl rfl E41
theorem S41 : ConS Tryz.prog 41 C41 := B41.call rfl
noncomputable def f_impl_WorldDo (x0 : Int) (x1 : tyN) (x2 : tyP) (x3 : Int) (x4 : Int) (x5 : Int) (x6 : Int) : Option (Int × tyN × tyP × Int) :=
 (f_impl_WorldOk x0 x1 x2).bind fun y0 =>
 bif (!y0) then
 some (0, [], [], 1)
 else
 (f_impl_worldDo x0 x1 x2 x3 x4 x5 x6).bind fun y1 =>
 some (y1.1, y1.2.1, y1.2.2.1, y1.2.2.2)
noncomputable def C15 : Con := ⟨[(.B, true, [iI, (.sl R8), (.sl R9)]), (.B, true, [iI, iI, iI, iI])], [(true, [iI, (.sl R8), (.sl R9)]), (false, [iI])], [iI, (.sl R8), (.sl R9), iI, iI, iI, iI], [iI, (.sl R8), (.sl R9), iI], ap7 f_impl_WorldDo⟩
noncomputable abbrev K15 : Cons := [(17, C17), (41, C41)]
noncomputable abbrev X15 : Nat → Ctx := ctxOf tb K15 Le Qe
theorem E15 : ∀ x, funRun fs X15 6 15 C15 x = C15.fn x := fun x => by kernel_rfl
theorem B15 : ConB Tryz.prog 15 C15 := ConB.make FS MIX TY (cons := K15) (L := Le) (ptrs := Qe) ⟨S17, S41, trivial⟩ trivial trivial rfl rfl E15
theorem S15 : ConS Tryz.prog 15 C15 := B15.call rfl
noncomputable def f_laws_sameInts.l0 : Nat → (List Int) → (List Int) → Bool → Int → Option ((Bool) ⊕ (Bool))
 | 0, _, _, _, _ => none
 | n + 1, p0, p1, p2, p3 =>
 bif (decide (p3 < (p0.length : Int))) then
 bif ((decide ((0 : Int) ≤ p3)) && (decide (p3 < (p0.length : Int)))) then
 bif ((decide ((0 : Int) ≤ p3)) && (decide (p3 < (p1.length : Int)))) then
 bif (!(decide ((p0.getD p3.toNat 0) = (p1.getD p3.toNat 0)))) then
 some (.inl false)
 else
 f_laws_sameInts.l0 n p0 p1 p2 (IntKind.wrap .i64 (p3 + (1 : Int)))
 else none
 else none
 else
 some (.inr p2)
noncomputable def f_laws_sameInts (x0 : List Int) (x1 : List Int) : Option (Bool) :=
 bif (!(decide ((x0.length : Int) = (x1.length : Int)))) then
 some false
 else
 (f_laws_sameInts.l0 N x0 x1 false 0).bind fun r0 =>
 cs r0 (fun a1 =>
 some a1) (fun b2 =>
 some true)
noncomputable def C11 : Con := ⟨[(.B, false, [(.sl R1)]), (.B, false, [(.sl R1)])], [(false, [.bool])], [(.sl R1), (.sl R1)], [.bool], ap2 f_laws_sameInts⟩
noncomputable abbrev f_laws_sameInts.l0.u (n : Nat) := ap4 (f_laws_sameInts.l0 n)
noncomputable def f_laws_sameInts.l0.c : LoopCon := ⟨1000, 6, [0, 1, 4, 5], ⟨[(0, bN R1), (1, bN R1), (4, .bool false), (5, i0)], [], 1000⟩, [(.sl R1), (.sl R1), .bool, iI], [⟨.ret, [4], ⟨[(4, .bool false)], [], 1000⟩, [.bool]⟩, ⟨.exit 0, [4], ⟨[(4, .bool false)], [], 1000⟩, [.bool]⟩], f_laws_sameInts.l0.u N⟩
noncomputable abbrev L11 : List (Nat × Loops) := [(11, [(4, f_laws_sameInts.l0.c)])]
noncomputable abbrev X11 : Nat → Ctx := ctxOf tb Ke L11 Qe
theorem f_laws_sameInts.l0.ok : ∀ n p, f_laws_sameInts.l0.u n p = iterD (roundOf fs X11 6 11 4 false f_laws_sameInts.l0.c) n p :=
 iter_of (l := f_laws_sameInts.l0.u) (fun _ => rfl) (fun n p => by kernel_rfl)
theorem E11 : ∀ x, funRun fs X11 6 11 C11 x = C11.fn x := fun x => by kernel_rfl
theorem B11 : ConB Tryz.prog 11 C11 := ConB.make FS MIX TY (cons := Ke) (L := L11) (ptrs := Qe) trivial trivial ⟨⟨⟨N, fun p => f_laws_sameInts.l0.ok N p⟩, trivial⟩, trivial⟩ rfl rfl E11
theorem S11 : ConS Tryz.prog 11 C11 := B11.call rfl
noncomputable def f_laws_sameHome.l1 : Nat → Bool → Int → (List Int) → Int → (List Bool) → Bool → Int → Bool → Int → tyW → (List Int) → Int → (List Bool) → Bool → Int → Bool → Int → tyW → Option ((Bool) ⊕ (Bool))
 | 0, _, _, _, _, _, _, _, _, _, _, _, _, _, _, _, _, _, _ => none
 | n + 1, p0, p1, p2, p3, p4, p5, p6, p7, p8, p9, p10, p11, p12, p13, p14, p15, p16, p17 =>
 bif (decide (p1 < (p9.length : Int))) then
 bif ((decide ((0 : Int) ≤ p1)) && (decide (p1 < (p9.length : Int)))) then
 bif ((decide ((0 : Int) ≤ p1)) && (decide (p1 < (p17.length : Int)))) then
 bif (!((decide (((p9.getD p1.toNat (0, false)).1) = ((p17.getD p1.toNat (0, false)).1))) && (((p9.getD p1.toNat (0, false)).2) == ((p17.getD p1.toNat (0, false)).2)))) then
 some (.inl false)
 else
 f_laws_sameHome.l1 n p0 (IntKind.wrap .i64 (p1 + (1 : Int))) p2 p3 p4 p5 p6 p7 p8 p9 p10 p11 p12 p13 p14 p15 p16 p17
 else none
 else none
 else
 some (.inr p0)
noncomputable def f_laws_sameHome.l0 : Nat → Bool → Int → (List Int) → Int → (List Bool) → Bool → Int → Bool → Int → tyW → (List Int) → Int → (List Bool) → Bool → Int → Bool → Int → tyW → Option ((Bool) ⊕ (Bool × List Int × Int × List Bool × Bool × Int × Bool × Int × tyW × List Int × Int × List Bool × Bool × Int × Bool × Int × tyW))
 | 0, _, _, _, _, _, _, _, _, _, _, _, _, _, _, _, _, _, _ => none
 | n + 1, p0, p1, p2, p3, p4, p5, p6, p7, p8, p9, p10, p11, p12, p13, p14, p15, p16, p17 =>
 bif (decide (p1 < (p4.length : Int))) then
 bif ((decide ((0 : Int) ≤ p1)) && (decide (p1 < (p4.length : Int)))) then
 bif ((decide ((0 : Int) ≤ p1)) && (decide (p1 < (p12.length : Int)))) then
 bif (!((p4.getD p1.toNat false) == (p12.getD p1.toNat false))) then
 some (.inl false)
 else
 f_laws_sameHome.l0 n p0 (IntKind.wrap .i64 (p1 + (1 : Int))) p2 p3 p4 p5 p6 p7 p8 p9 p10 p11 p12 p13 p14 p15 p16 p17
 else none
 else none
 else
 some (.inr (p0, p2, p3, p4, p5, p6, p7, p8, p9, p10, p11, p12, p13, p14, p15, p16, p17))
noncomputable def f_laws_sameHome (x0 : List Int) (x1 : Int) (x2 : List Bool) (x3 : Bool) (x4 : Int) (x5 : Bool) (x6 : Int) (x7 : tyW) (x8 : List Int) (x9 : Int) (x10 : List Bool) (x11 : Bool) (x12 : Int) (x13 : Bool) (x14 : Int) (x15 : tyW) : Option (Bool) :=
 bif (!(decide (x1 = x9))) then
 some false
 else
 bif (!(x3 == x11)) then
 some false
 else
 bif (!((decide (x4 = x12)) && (x5 == x13))) then
 some false
 else
 bif (!(decide (x6 = x14))) then
 some false
 else
 (f_laws_sameInts x0 x8).bind fun y0 =>
 bif (!y0) then
 some false
 else
 bif (!(decide ((x2.length : Int) = (x10.length : Int)))) then
 some false
 else
 bif (!(decide ((x7.length : Int) = (x15.length : Int)))) then
 some false
 else
 (f_laws_sameHome.l0 N false 0 x0 x1 x2 x3 x4 x5 x6 x7 x8 x9 x10 x11 x12 x13 x14 x15).bind fun r1 =>
 cs r1 (fun a2 =>
 some a2) (fun b3 =>
 (f_laws_sameHome.l1 N b3.1 0 b3.2.1 b3.2.2.1 b3.2.2.2.1 b3.2.2.2.2.1 b3.2.2.2.2.2.1 b3.2.2.2.2.2.2.1 b3.2.2.2.2.2.2.2.1 b3.2.2.2.2.2.2.2.2.1 b3.2.2.2.2.2.2.2.2.2.1 b3.2.2.2.2.2.2.2.2.2.2.1 b3.2.2.2.2.2.2.2.2.2.2.2.1 b3.2.2.2.2.2.2.2.2.2.2.2.2.1 b3.2.2.2.2.2.2.2.2.2.2.2.2.2.1 b3.2.2.2.2.2.2.2.2.2.2.2.2.2.2.1 b3.2.2.2.2.2.2.2.2.2.2.2.2.2.2.2.1 b3.2.2.2.2.2.2.2.2.2.2.2.2.2.2.2.2).bind fun r4 =>
 cs r4 (fun a5 =>
 some a5) (fun b6 =>
 some true))
noncomputable def C79 : Con := ⟨[(.B, true, [(.sl R1), iI, (.sl R2), .bool, iI, .bool, iI, (.sl R3)]), (.B, true, [(.sl R1), iI, (.sl R2), .bool, iI, .bool, iI, (.sl R3)])], [(false, [.bool])], [(.sl R1), iI, (.sl R2), .bool, iI, .bool, iI, (.sl R3), (.sl R1), iI, (.sl R2), .bool, iI, .bool, iI, (.sl R3)], [.bool], ap16 f_laws_sameHome⟩
noncomputable abbrev f_laws_sameHome.l0.u (n : Nat) := ap18 (f_laws_sameHome.l0 n)
noncomputable def f_laws_sameHome.l0.c : LoopCon := ⟨1000, 6, [2, 3, 4, 5], ⟨[(2, .ptr 1000 0), (3, .ptr 1001 0), (4, .bool false), (5, i0)], [(1000, .box [bN R1, i0, bN R2, .bool false, i0, .bool false, i0, bN R3]), (1001, .box [bN R1, i0, bN R2, .bool false, i0, .bool false, i0, bN R3])], 1002⟩, [.bool, iI, (.sl R1), iI, (.sl R2), .bool, iI, .bool, iI, (.sl R3), (.sl R1), iI, (.sl R2), .bool, iI, .bool, iI, (.sl R3)], [⟨.ret, [4], ⟨[(4, .bool false)], [], 1000⟩, [.bool]⟩, ⟨.exit 0, [2, 3, 4], ⟨[(2, .ptr 1000 0), (3, .ptr 1001 0), (4, .bool false)], [(1000, .box [bN R1, i0, bN R2, .bool false, i0, .bool false, i0, bN R3]), (1001, .box [bN R1, i0, bN R2, .bool false, i0, .bool false, i0, bN R3])], 1002⟩, [.bool, (.sl R1), iI, (.sl R2), .bool, iI, .bool, iI, (.sl R3), (.sl R1), iI, (.sl R2), .bool, iI, .bool, iI, (.sl R3)]⟩], f_laws_sameHome.l0.u N⟩
noncomputable abbrev f_laws_sameHome.l1.u (n : Nat) := ap18 (f_laws_sameHome.l1 n)
noncomputable def f_laws_sameHome.l1.c : LoopCon := ⟨1000, 6, [2, 3, 4, 6], ⟨[(2, .ptr 1000 0), (3, .ptr 1001 0), (4, .bool false), (6, i0)], [(1000, .box [bN R1, i0, bN R2, .bool false, i0, .bool false, i0, bN R3]), (1001, .box [bN R1, i0, bN R2, .bool false, i0, .bool false, i0, bN R3])], 1002⟩, [.bool, iI, (.sl R1), iI, (.sl R2), .bool, iI, .bool, iI, (.sl R3), (.sl R1), iI, (.sl R2), .bool, iI, .bool, iI, (.sl R3)], [⟨.ret, [4], ⟨[(4, .bool false)], [], 1000⟩, [.bool]⟩, ⟨.exit 2, [4], ⟨[(4, .bool false)], [], 1000⟩, [.bool]⟩], f_laws_sameHome.l1.u N⟩
noncomputable abbrev K79 : Cons := [(11, C11)]
noncomputable abbrev L79 : List (Nat × Loops) := [(79, [(4, f_laws_sameHome.l0.c), (9, f_laws_sameHome.l1.c)])]
noncomputable abbrev X79 : Nat → Ctx := ctxOf tb K79 L79 Qe
theorem f_laws_sameHome.l0.ok : ∀ n p, f_laws_sameHome.l0.u n p = iterD (roundOf fs X79 6 79 4 false f_laws_sameHome.l0.c) n p :=
 iter_of (l := f_laws_sameHome.l0.u) (fun _ => rfl) (fun n p => by kernel_rfl)
theorem f_laws_sameHome.l1.ok : ∀ n p, f_laws_sameHome.l1.u n p = iterD (roundOf fs X79 6 79 9 false f_laws_sameHome.l1.c) n p :=
 iter_of (l := f_laws_sameHome.l1.u) (fun _ => rfl) (fun n p => by kernel_rfl)
theorem E79 : ∀ x, funRun fs X79 6 79 C79 x = C79.fn x := fun x => by kernel_rfl
theorem B79 : ConB Tryz.prog 79 C79 := ConB.make FS MIX TY (cons := K79) (L := L79) (ptrs := Qe) ⟨S11, trivial⟩ trivial ⟨⟨⟨N, fun p => f_laws_sameHome.l0.ok N p⟩, ⟨N, fun p => f_laws_sameHome.l1.ok N p⟩, trivial⟩, trivial⟩ rfl rfl E79
theorem S79 : ConS Tryz.prog 79 C79 := B79.call rfl
noncomputable def f_laws_sameNode.l2 : Nat → Bool → Int → Int → tyF → tyH → tyS → (List Int) → Int → tyF → tyH → tyS → (List Int) → Option ((Bool) ⊕ (Bool))
 | 0, _, _, _, _, _, _, _, _, _, _, _, _ => none
 | n + 1, p0, p1, p2, p3, p4, p5, p6, p7, p8, p9, p10, p11 =>
 bif (decide (p1 < (p5.length : Int))) then
 bif ((decide ((0 : Int) ≤ p1)) && (decide (p1 < (p5.length : Int)))) then
 bif ((decide ((0 : Int) ≤ p1)) && (decide (p1 < (p10.length : Int)))) then
 bif (!(decide (((p5.getD p1.toNat (0, [])).1) = ((p10.getD p1.toNat (0, [])).1)))) then
 some (.inl false)
 else
 bif ((decide ((0 : Int) ≤ p1)) && (decide (p1 < (p5.length : Int)))) then
 bif ((decide ((0 : Int) ≤ p1)) && (decide (p1 < (p10.length : Int)))) then
 bif (!(decide ((((p5.getD p1.toNat (0, [])).2).length : Int) = (((p10.getD p1.toNat (0, [])).2).length : Int)))) then
 some (.inl false)
 else
 bif (decide (p1 < (p6.length : Int))) then
 bif ((decide ((0 : Int) ≤ p1)) && (decide (p1 < (p6.length : Int)))) then
 bif ((decide ((0 : Int) ≤ p1)) && (decide (p1 < (p11.length : Int)))) then
 bif (!(decide ((p6.getD p1.toNat 0) = (p11.getD p1.toNat 0)))) then
 some (.inl false)
 else
 f_laws_sameNode.l2 n p0 (IntKind.wrap .i64 (p1 + (1 : Int))) p2 p3 p4 p5 p6 p7 p8 p9 p10 p11
 else none
 else none
 else
 f_laws_sameNode.l2 n p0 (IntKind.wrap .i64 (p1 + (1 : Int))) p2 p3 p4 p5 p6 p7 p8 p9 p10 p11
 else none
 else none
 else none
 else none
 else
 some (.inr p0)
noncomputable def f_laws_sameNode.l1 : Nat → Bool → Int → Int → tyF → tyH → tyS → (List Int) → Int → tyF → tyH → tyS → (List Int) → Option ((Bool) ⊕ (Bool × Int × tyF × tyH × tyS × List Int × Int × tyF × tyH × tyS × List Int))
 | 0, _, _, _, _, _, _, _, _, _, _, _, _ => none
 | n + 1, p0, p1, p2, p3, p4, p5, p6, p7, p8, p9, p10, p11 =>
 bif (decide (p1 < (p4.length : Int))) then
 bif ((decide ((0 : Int) ≤ p1)) && (decide (p1 < (p4.length : Int)))) then
 bif ((decide ((0 : Int) ≤ p1)) && (decide (p1 < (p9.length : Int)))) then
 (f_laws_sameHome ((p4.getD p1.toNat ([], 0, [], false, 0, false, 0, [])).1) ((p4.getD p1.toNat ([], 0, [], false, 0, false, 0, [])).2.1) ((p4.getD p1.toNat ([], 0, [], false, 0, false, 0, [])).2.2.1) ((p4.getD p1.toNat ([], 0, [], false, 0, false, 0, [])).2.2.2.1) ((p4.getD p1.toNat ([], 0, [], false, 0, false, 0, [])).2.2.2.2.1) ((p4.getD p1.toNat ([], 0, [], false, 0, false, 0, [])).2.2.2.2.2.1) ((p4.getD p1.toNat ([], 0, [], false, 0, false, 0, [])).2.2.2.2.2.2.1) ((p4.getD p1.toNat ([], 0, [], false, 0, false, 0, [])).2.2.2.2.2.2.2) ((p9.getD p1.toNat ([], 0, [], false, 0, false, 0, [])).1) ((p9.getD p1.toNat ([], 0, [], false, 0, false, 0, [])).2.1) ((p9.getD p1.toNat ([], 0, [], false, 0, false, 0, [])).2.2.1) ((p9.getD p1.toNat ([], 0, [], false, 0, false, 0, [])).2.2.2.1) ((p9.getD p1.toNat ([], 0, [], false, 0, false, 0, [])).2.2.2.2.1) ((p9.getD p1.toNat ([], 0, [], false, 0, false, 0, [])).2.2.2.2.2.1) ((p9.getD p1.toNat ([], 0, [], false, 0, false, 0, [])).2.2.2.2.2.2.1) ((p9.getD p1.toNat ([], 0, [], false, 0, false, 0, [])).2.2.2.2.2.2.2)).bind fun y12 =>
 bif (!y12) then
 some (.inl false)
 else
 f_laws_sameNode.l1 n p0 (IntKind.wrap .i64 (p1 + (1 : Int))) p2 p3 p4 p5 p6 p7 p8 p9 p10 p11
 else none
 else none
 else
 some (.inr (p0, p2, p3, p4, p5, p6, p7, p8, p9, p10, p11))
noncomputable def f_laws_sameNode.l0 : Nat → Bool → Int → Int → tyF → tyH → tyS → (List Int) → Int → tyF → tyH → tyS → (List Int) → Option ((Bool) ⊕ (Bool × Int × tyF × tyH × tyS × List Int × Int × tyF × tyH × tyS × List Int))
 | 0, _, _, _, _, _, _, _, _, _, _, _, _ => none
 | n + 1, p0, p1, p2, p3, p4, p5, p6, p7, p8, p9, p10, p11 =>
 bif (decide (p1 < (p3.length : Int))) then
 bif ((decide ((0 : Int) ≤ p1)) && (decide (p1 < (p3.length : Int)))) then
 bif ((decide ((0 : Int) ≤ p1)) && (decide (p1 < (p8.length : Int)))) then
 bif (!(decide (((p3.getD p1.toNat (0, [], false)).1) = ((p8.getD p1.toNat (0, [], false)).1)))) then
 some (.inl false)
 else
 bif ((decide ((0 : Int) ≤ p1)) && (decide (p1 < (p3.length : Int)))) then
 bif ((decide ((0 : Int) ≤ p1)) && (decide (p1 < (p8.length : Int)))) then
 bif (!(((p3.getD p1.toNat (0, [], false)).2.2) == ((p8.getD p1.toNat (0, [], false)).2.2))) then
 some (.inl false)
 else
 bif ((decide ((0 : Int) ≤ p1)) && (decide (p1 < (p3.length : Int)))) then
 bif ((decide ((0 : Int) ≤ p1)) && (decide (p1 < (p8.length : Int)))) then
 (f_laws_sameInts ((p3.getD p1.toNat (0, [], false)).2.1) ((p8.getD p1.toNat (0, [], false)).2.1)).bind fun y12 =>
 bif (!y12) then
 some (.inl false)
 else
 f_laws_sameNode.l0 n p0 (IntKind.wrap .i64 (p1 + (1 : Int))) p2 p3 p4 p5 p6 p7 p8 p9 p10 p11
 else none
 else none
 else none
 else none
 else none
 else none
 else
 some (.inr (p0, p2, p3, p4, p5, p6, p7, p8, p9, p10, p11))
noncomputable def f_laws_sameNode (x0 : Int) (x1 : tyF) (x2 : tyH) (x3 : tyS) (x4 : List Int) (x5 : Int) (x6 : tyF) (x7 : tyH) (x8 : tyS) (x9 : List Int) : Option (Bool) :=
 bif (!(decide (x0 = x5))) then
 some false
 else
 bif (!(decide ((x1.length : Int) = (x6.length : Int)))) then
 some false
 else
 bif (!(decide ((x2.length : Int) = (x7.length : Int)))) then
 some false
 else
 bif (!(decide ((x3.length : Int) = (x8.length : Int)))) then
 some false
 else
 bif (!(decide ((x4.length : Int) = (x9.length : Int)))) then
 some false
 else
 (f_laws_sameNode.l0 N false 0 x0 x1 x2 x3 x4 x5 x6 x7 x8 x9).bind fun r0 =>
 cs r0 (fun a1 =>
 some a1) (fun b2 =>
 (f_laws_sameNode.l1 N b2.1 0 b2.2.1 b2.2.2.1 b2.2.2.2.1 b2.2.2.2.2.1 b2.2.2.2.2.2.1 b2.2.2.2.2.2.2.1 b2.2.2.2.2.2.2.2.1 b2.2.2.2.2.2.2.2.2.1 b2.2.2.2.2.2.2.2.2.2.1 b2.2.2.2.2.2.2.2.2.2.2).bind fun r3 =>
 cs r3 (fun a4 =>
 some a4) (fun b5 =>
 (f_laws_sameNode.l2 N b5.1 0 b5.2.1 b5.2.2.1 b5.2.2.2.1 b5.2.2.2.2.1 b5.2.2.2.2.2.1 b5.2.2.2.2.2.2.1 b5.2.2.2.2.2.2.2.1 b5.2.2.2.2.2.2.2.2.1 b5.2.2.2.2.2.2.2.2.2.1 b5.2.2.2.2.2.2.2.2.2.2).bind fun r6 =>
 cs r6 (fun a7 =>
 some a7) (fun b8 =>
 some true)))
noncomputable def C43 : Con := ⟨[(.B, true, [iI, (.sl R4), (.sl R5), (.sl R7), (.sl R1)]), (.B, true, [iI, (.sl R4), (.sl R5), (.sl R7), (.sl R1)])], [(false, [.bool])], [iI, (.sl R4), (.sl R5), (.sl R7), (.sl R1), iI, (.sl R4), (.sl R5), (.sl R7), (.sl R1)], [.bool], ap10 f_laws_sameNode⟩
noncomputable abbrev f_laws_sameNode.l0.u (n : Nat) := ap12 (f_laws_sameNode.l0 n)
noncomputable def f_laws_sameNode.l0.c : LoopCon := ⟨1000, 6, [2, 3, 4, 5], ⟨[(2, .ptr 1000 0), (3, .ptr 1001 0), (4, .bool false), (5, i0)], [(1000, .box [i0, bN R4, bN R5, bN R7, bN R1]), (1001, .box [i0, bN R4, bN R5, bN R7, bN R1])], 1002⟩, [.bool, iI, iI, (.sl R4), (.sl R5), (.sl R7), (.sl R1), iI, (.sl R4), (.sl R5), (.sl R7), (.sl R1)], [⟨.ret, [4], ⟨[(4, .bool false)], [], 1000⟩, [.bool]⟩, ⟨.exit 0, [2, 3, 4], ⟨[(2, .ptr 1000 0), (3, .ptr 1001 0), (4, .bool false)], [(1000, .box [i0, bN R4, bN R5, bN R7, bN R1]), (1001, .box [i0, bN R4, bN R5, bN R7, bN R1])], 1002⟩, [.bool, iI, (.sl R4), (.sl R5), (.sl R7), (.sl R1), iI, (.sl R4), (.sl R5), (.sl R7), (.sl R1)]⟩], f_laws_sameNode.l0.u N⟩
noncomputable abbrev f_laws_sameNode.l1.u (n : Nat) := ap12 (f_laws_sameNode.l1 n)
noncomputable def f_laws_sameNode.l1.c : LoopCon := ⟨1000, 6, [2, 3, 4, 6], ⟨[(2, .ptr 1000 0), (3, .ptr 1001 0), (4, .bool false), (6, i0)], [(1000, .box [i0, bN R4, bN R5, bN R7, bN R1]), (1001, .box [i0, bN R4, bN R5, bN R7, bN R1])], 1002⟩, [.bool, iI, iI, (.sl R4), (.sl R5), (.sl R7), (.sl R1), iI, (.sl R4), (.sl R5), (.sl R7), (.sl R1)], [⟨.ret, [4], ⟨[(4, .bool false)], [], 1000⟩, [.bool]⟩, ⟨.exit 2, [2, 3, 4], ⟨[(2, .ptr 1000 0), (3, .ptr 1001 0), (4, .bool false)], [(1000, .box [i0, bN R4, bN R5, bN R7, bN R1]), (1001, .box [i0, bN R4, bN R5, bN R7, bN R1])], 1002⟩, [.bool, iI, (.sl R4), (.sl R5), (.sl R7), (.sl R1), iI, (.sl R4), (.sl R5), (.sl R7), (.sl R1)]⟩], f_laws_sameNode.l1.u N⟩
noncomputable abbrev f_laws_sameNode.l2.u (n : Nat) := ap12 (f_laws_sameNode.l2 n)
noncomputable def f_laws_sameNode.l2.c : LoopCon := ⟨1000, 6, [2, 3, 4, 7], ⟨[(2, .ptr 1000 0), (3, .ptr 1001 0), (4, .bool false), (7, i0)], [(1000, .box [i0, bN R4, bN R5, bN R7, bN R1]), (1001, .box [i0, bN R4, bN R5, bN R7, bN R1])], 1002⟩, [.bool, iI, iI, (.sl R4), (.sl R5), (.sl R7), (.sl R1), iI, (.sl R4), (.sl R5), (.sl R7), (.sl R1)], [⟨.ret, [4], ⟨[(4, .bool false)], [], 1000⟩, [.bool]⟩, ⟨.exit 4, [4], ⟨[(4, .bool false)], [], 1000⟩, [.bool]⟩], f_laws_sameNode.l2.u N⟩
noncomputable abbrev K43 : Cons := [(11, C11), (79, C79)]
noncomputable abbrev L43 : List (Nat × Loops) := [(43, [(4, f_laws_sameNode.l0.c), (9, f_laws_sameNode.l1.c), (14, f_laws_sameNode.l2.c)])]
noncomputable abbrev X43 : Nat → Ctx := ctxOf tb K43 L43 Qe
theorem f_laws_sameNode.l0.ok : ∀ n p, f_laws_sameNode.l0.u n p = iterD (roundOf fs X43 6 43 4 false f_laws_sameNode.l0.c) n p :=
 iter_of (l := f_laws_sameNode.l0.u) (fun _ => rfl) (fun n p => by kernel_rfl)
theorem f_laws_sameNode.l1.ok : ∀ n p, f_laws_sameNode.l1.u n p = iterD (roundOf fs X43 6 43 9 false f_laws_sameNode.l1.c) n p :=
 iter_of (l := f_laws_sameNode.l1.u) (fun _ => rfl) (fun n p => by kernel_rfl)
theorem f_laws_sameNode.l2.ok : ∀ n p, f_laws_sameNode.l2.u n p = iterD (roundOf fs X43 6 43 14 false f_laws_sameNode.l2.c) n p :=
 iter_of (l := f_laws_sameNode.l2.u) (fun _ => rfl) (fun n p => by kernel_rfl)
theorem E43 : ∀ x, funRun fs X43 6 43 C43 x = C43.fn x := fun x => by kernel_rfl
theorem B43 : ConB Tryz.prog 43 C43 := ConB.make FS MIX TY (cons := K43) (L := L43) (ptrs := Qe) ⟨S11, S79, trivial⟩ trivial ⟨⟨⟨N, fun p => f_laws_sameNode.l0.ok N p⟩, ⟨N, fun p => f_laws_sameNode.l1.ok N p⟩, ⟨N, fun p => f_laws_sameNode.l2.ok N p⟩, trivial⟩, trivial⟩ rfl rfl E43
theorem S43 : ConS Tryz.prog 43 C43 := B43.call rfl
noncomputable def f_laws_sameWorld.l1 : Nat → Bool → Int → Int → tyN → tyP → Int → tyN → tyP → Option ((Bool) ⊕ (Bool))
 | 0, _, _, _, _, _, _, _, _ => none
 | n + 1, p0, p1, p2, p3, p4, p5, p6, p7 =>
 bif (decide (p1 < (p4.length : Int))) then
 bif ((decide ((0 : Int) ≤ p1)) && (decide (p1 < (p4.length : Int)))) then
 bif ((decide ((0 : Int) ≤ p1)) && (decide (p1 < (p7.length : Int)))) then
 bif (!(decide (((p4.getD p1.toNat (0, 0, false, 0, 0, 0, false, [])).1) = ((p7.getD p1.toNat (0, 0, false, 0, 0, 0, false, [])).1)))) then
 some (.inl false)
 else
 bif ((decide ((0 : Int) ≤ p1)) && (decide (p1 < (p4.length : Int)))) then
 bif ((decide ((0 : Int) ≤ p1)) && (decide (p1 < (p7.length : Int)))) then
 bif (!(decide (((p4.getD p1.toNat (0, 0, false, 0, 0, 0, false, [])).2.1) = ((p7.getD p1.toNat (0, 0, false, 0, 0, 0, false, [])).2.1)))) then
 some (.inl false)
 else
 bif ((decide ((0 : Int) ≤ p1)) && (decide (p1 < (p4.length : Int)))) then
 bif ((decide ((0 : Int) ≤ p1)) && (decide (p1 < (p7.length : Int)))) then
 bif (!(decide (((p4.getD p1.toNat (0, 0, false, 0, 0, 0, false, [])).2.2.2.1) = ((p7.getD p1.toNat (0, 0, false, 0, 0, 0, false, [])).2.2.2.1)))) then
 some (.inl false)
 else
 bif ((decide ((0 : Int) ≤ p1)) && (decide (p1 < (p4.length : Int)))) then
 bif ((decide ((0 : Int) ≤ p1)) && (decide (p1 < (p7.length : Int)))) then
 bif (!(decide (((p4.getD p1.toNat (0, 0, false, 0, 0, 0, false, [])).2.2.2.2.1) = ((p7.getD p1.toNat (0, 0, false, 0, 0, 0, false, [])).2.2.2.2.1)))) then
 some (.inl false)
 else
 f_laws_sameWorld.l1 n p0 (IntKind.wrap .i64 (p1 + (1 : Int))) p2 p3 p4 p5 p6 p7
 else none
 else none
 else none
 else none
 else none
 else none
 else none
 else none
 else
 some (.inr p0)
noncomputable def f_laws_sameWorld.l0 : Nat → Bool → Int → Int → tyN → tyP → Int → tyN → tyP → Option ((Bool) ⊕ (Bool × Int × tyN × tyP × Int × tyN × tyP))
 | 0, _, _, _, _, _, _, _, _ => none
 | n + 1, p0, p1, p2, p3, p4, p5, p6, p7 =>
 bif (decide (p1 < (p3.length : Int))) then
 bif ((decide ((0 : Int) ≤ p1)) && (decide (p1 < (p3.length : Int)))) then
 bif ((decide ((0 : Int) ≤ p1)) && (decide (p1 < (p6.length : Int)))) then
 (f_laws_sameNode ((p3.getD p1.toNat (0, [], [], [], [])).1) ((p3.getD p1.toNat (0, [], [], [], [])).2.1) ((p3.getD p1.toNat (0, [], [], [], [])).2.2.1) ((p3.getD p1.toNat (0, [], [], [], [])).2.2.2.1) ((p3.getD p1.toNat (0, [], [], [], [])).2.2.2.2) ((p6.getD p1.toNat (0, [], [], [], [])).1) ((p6.getD p1.toNat (0, [], [], [], [])).2.1) ((p6.getD p1.toNat (0, [], [], [], [])).2.2.1) ((p6.getD p1.toNat (0, [], [], [], [])).2.2.2.1) ((p6.getD p1.toNat (0, [], [], [], [])).2.2.2.2)).bind fun y8 =>
 bif (!y8) then
 some (.inl false)
 else
 f_laws_sameWorld.l0 n p0 (IntKind.wrap .i64 (p1 + (1 : Int))) p2 p3 p4 p5 p6 p7
 else none
 else none
 else
 some (.inr (p0, p2, p3, p4, p5, p6, p7))
noncomputable def f_laws_sameWorld (x0 : Int) (x1 : tyN) (x2 : tyP) (x3 : Int) (x4 : tyN) (x5 : tyP) : Option (Bool) :=
 bif (!(decide (x0 = x3))) then
 some false
 else
 bif (!(decide ((x1.length : Int) = (x4.length : Int)))) then
 some false
 else
 bif (!(decide ((x2.length : Int) = (x5.length : Int)))) then
 some false
 else
 (f_laws_sameWorld.l0 N false 0 x0 x1 x2 x3 x4 x5).bind fun r0 =>
 cs r0 (fun a1 =>
 some a1) (fun b2 =>
 (f_laws_sameWorld.l1 N b2.1 0 b2.2.1 b2.2.2.1 b2.2.2.2.1 b2.2.2.2.2.1 b2.2.2.2.2.2.1 b2.2.2.2.2.2.2).bind fun r3 =>
 cs r3 (fun a4 =>
 some a4) (fun b5 =>
 some true))
noncomputable def C12 : Con := ⟨[(.B, true, [iI, (.sl R8), (.sl R9)]), (.B, true, [iI, (.sl R8), (.sl R9)])], [(false, [.bool])], [iI, (.sl R8), (.sl R9), iI, (.sl R8), (.sl R9)], [.bool], ap6 f_laws_sameWorld⟩
noncomputable abbrev f_laws_sameWorld.l0.u (n : Nat) := ap8 (f_laws_sameWorld.l0 n)
noncomputable def f_laws_sameWorld.l0.c : LoopCon := ⟨1000, 6, [2, 3, 4, 5], ⟨[(2, .ptr 1000 0), (3, .ptr 1001 0), (4, .bool false), (5, i0)], [(1000, .box [i0, bN R8, bN R9]), (1001, .box [i0, bN R8, bN R9])], 1002⟩, [.bool, iI, iI, (.sl R8), (.sl R9), iI, (.sl R8), (.sl R9)], [⟨.ret, [4], ⟨[(4, .bool false)], [], 1000⟩, [.bool]⟩, ⟨.exit 0, [2, 3, 4], ⟨[(2, .ptr 1000 0), (3, .ptr 1001 0), (4, .bool false)], [(1000, .box [i0, bN R8, bN R9]), (1001, .box [i0, bN R8, bN R9])], 1002⟩, [.bool, iI, (.sl R8), (.sl R9), iI, (.sl R8), (.sl R9)]⟩], f_laws_sameWorld.l0.u N⟩
noncomputable abbrev f_laws_sameWorld.l1.u (n : Nat) := ap8 (f_laws_sameWorld.l1 n)
noncomputable def f_laws_sameWorld.l1.c : LoopCon := ⟨1000, 6, [2, 3, 4, 6], ⟨[(2, .ptr 1000 0), (3, .ptr 1001 0), (4, .bool false), (6, i0)], [(1000, .box [i0, bN R8, bN R9]), (1001, .box [i0, bN R8, bN R9])], 1002⟩, [.bool, iI, iI, (.sl R8), (.sl R9), iI, (.sl R8), (.sl R9)], [⟨.ret, [4], ⟨[(4, .bool false)], [], 1000⟩, [.bool]⟩, ⟨.exit 2, [4], ⟨[(4, .bool false)], [], 1000⟩, [.bool]⟩], f_laws_sameWorld.l1.u N⟩
noncomputable abbrev K12 : Cons := [(43, C43)]
noncomputable abbrev L12 : List (Nat × Loops) := [(12, [(4, f_laws_sameWorld.l0.c), (9, f_laws_sameWorld.l1.c)])]
noncomputable abbrev X12 : Nat → Ctx := ctxOf tb K12 L12 Qe
theorem f_laws_sameWorld.l0.ok : ∀ n p, f_laws_sameWorld.l0.u n p = iterD (roundOf fs X12 6 12 4 false f_laws_sameWorld.l0.c) n p :=
 iter_of (l := f_laws_sameWorld.l0.u) (fun _ => rfl) (fun n p => by kernel_rfl)
theorem f_laws_sameWorld.l1.ok : ∀ n p, f_laws_sameWorld.l1.u n p = iterD (roundOf fs X12 6 12 9 false f_laws_sameWorld.l1.c) n p :=
 iter_of (l := f_laws_sameWorld.l1.u) (fun _ => rfl) (fun n p => by kernel_rfl)
theorem E12 : ∀ x, funRun fs X12 6 12 C12 x = C12.fn x := fun x => by kernel_rfl
theorem B12 : ConB Tryz.prog 12 C12 := ConB.make FS MIX TY (cons := K12) (L := L12) (ptrs := Qe) ⟨S43, trivial⟩ trivial ⟨⟨⟨N, fun p => f_laws_sameWorld.l0.ok N p⟩, ⟨N, fun p => f_laws_sameWorld.l1.ok N p⟩, trivial⟩, trivial⟩ rfl rfl E12
theorem S12 : ConS Tryz.prog 12 C12 := B12.call rfl
noncomputable def f_spec_DrawWorldNew.l0 : Nat → (List Int) → Int → Int → Option (List Int × Int)
 | 0, _, _, _ => none
 | n + 1, p0, p1, p2 =>
 bif (decide (p2 < (p0.length : Int))) then
 bif (decide (p2 < (4000 : Int))) then
 bif ((decide ((0 : Int) ≤ p2)) && (decide (p2 < (p0.length : Int)))) then
 f_spec_DrawWorldNew.l0 n p0 (bitI .and .i64 (IntKind.wrap .i64 ((IntKind.wrap .i64 ((IntKind.wrap .i64 (p1 * (131 : Int))) + (IntKind.wrap .i64 ((p0.getD p2.toNat 0))))) + (7 : Int))) (1073741823 : Int)) (IntKind.wrap .i64 (p2 + (1 : Int)))
 else none
 else
 some (p0, p1)
 else
 some (p0, p1)
noncomputable def f_spec_DrawWorldNew (x0 : List Int) : Option (Int) :=
 (f_spec_DrawWorldNew.l0 N x0 (IntKind.wrap .i64 ((20404 : Int) + (x0.length : Int))) 0).bind fun r0 =>
 (f_spec_l1Below r0.1 0 r0.2 7).bind fun y1 =>
 some (IntKind.wrap .i64 (y1.1 - (1 : Int)))
noncomputable def C19 : Con := ⟨[(.B, false, [(.sl R0)])], [(false, [iI])], [(.sl R0)], [iI], fun (p : List Int) => f_spec_DrawWorldNew p⟩
noncomputable abbrev f_spec_DrawWorldNew.l0.u (n : Nat) := ap3 (f_spec_DrawWorldNew.l0 n)
noncomputable def f_spec_DrawWorldNew.l0.c : LoopCon := ⟨1097, 5, [0, 3, 4], ⟨[(0, bN R0), (3, i0), (4, i0)], [], 1097⟩, [(.sl R0), iI, iI], [⟨.exit 0, [0, 3], ⟨[(0, bN R0), (3, i0)], [], 1097⟩, [(.sl R0), iI]⟩], f_spec_DrawWorldNew.l0.u N⟩
noncomputable abbrev K19 : Cons := [(56, C56)]
noncomputable abbrev L19 : List (Nat × Loops) := [(36, [(3, f_spec_DrawWorldNew.l0.c)])]
noncomputable abbrev X19 : Nat → Ctx := ctxOf tb K19 L19 Qe
theorem f_spec_DrawWorldNew.l0.ok : ∀ n p, f_spec_DrawWorldNew.l0.u n p = iterD (roundOf fs X19 5 36 3 true f_spec_DrawWorldNew.l0.c) n p :=
 iter_of (l := f_spec_DrawWorldNew.l0.u) (fun _ => rfl) (fun n p => by kernel_rfl)
theorem E19 : ∀ x, funRun fs X19 6 19 C19 x = C19.fn x := fun x => by kernel_rfl
theorem B19 : ConB Tryz.prog 19 C19 := ConB.make FS MIX TY (cons := K19) (L := L19) (ptrs := Qe) ⟨S56, trivial⟩ trivial ⟨⟨⟨N, fun p => f_spec_DrawWorldNew.l0.ok N p⟩, trivial⟩, trivial⟩ rfl rfl E19
theorem S19 : ConS Tryz.prog 19 C19 := B19.call rfl
noncomputable def f_impl_HomeNew (x0 : Int) : Option (List Int × Int × List Bool × Bool × Int × Bool × Int × tyW) :=
 (f_impl_from x0 1 4).bind fun y0 =>
 bif (!y0) then
 some ([], 0, [], false, 0, false, 0, [])
 else
 bif (decide ((0 : Int) ≤ x0) && Nat.ble x0.toNat 140737488355328) then
 some ((List.replicate 4 0), -1, (List.replicate x0.toNat false), false, 0, false, 0, [])
 else none
noncomputable def C109 : Con := ⟨[(.B, false, [iI])], [(true, [(.sl R1), iI, (.sl R2), .bool, iI, .bool, iI, (.sl R3)])], [iI], [(.sl R1), iI, (.sl R2), .bool, iI, .bool, iI, (.sl R3)], fun (p : Int) => f_impl_HomeNew p⟩
noncomputable abbrev K109 : Cons := [(49, C49)]
noncomputable abbrev X109 : Nat → Ctx := ctxOf tb K109 Le Qe
theorem E109 : ∀ x, funRun fs X109 6 109 C109 x = C109.fn x := fun x => by kernel_rfl
theorem B109 : ConB Tryz.prog 109 C109 := ConB.make FS MIX TY (cons := K109) (L := Le) (ptrs := Qe) ⟨S49, trivial⟩ trivial trivial rfl rfl E109
theorem S109 : ConS Tryz.prog 109 C109 := B109.call rfl
noncomputable def f_impl_NodeNew.l0 : Nat → Int → Bool → Int → Int → Int → tyF → tyH → tyS → (List Int) → tyF → tyH → tyS → (List Int) → Option (Bool × Int × Int × tyF × tyH × tyS × List Int × tyF × tyH × tyS × List Int)
 | 0, _, _, _, _, _, _, _, _, _, _, _, _, _ => none
 | n + 1, p0, p1, p2, p3, p4, p5, p6, p7, p8, p9, p10, p11, p12 =>
 bif (decide (p2 < (6 : Int))) then
 (f_impl_HomeNew p0).bind fun y13 =>
 bif (Nat.blt (p10.length + ([(y13.1, y13.2.1, y13.2.2.1, y13.2.2.2.1, y13.2.2.2.2.1, y13.2.2.2.2.2.1, y13.2.2.2.2.2.2.1, y13.2.2.2.2.2.2.2)] : tyH).length) 1256584717458) then
 (some ((p10 ++ ([(y13.1, y13.2.1, y13.2.2.1, y13.2.2.2.1, y13.2.2.2.2.1, y13.2.2.2.2.2.1, y13.2.2.2.2.2.2.1, y13.2.2.2.2.2.2.2)] : tyH)) : tyH)).bind fun z14 =>
 f_impl_NodeNew.l0 n p0 p1 (IntKind.wrap .i64 (p2 + (1 : Int))) p3 p4 p5 p6 p7 p8 p9 z14 p11 p12
 else none
 else
 some (p1, p3, p4, p5, p6, p7, p8, p9, p10, p11, p12)
noncomputable def f_impl_NodeNew (x0 : Int) (x1 : Int) : Option (Int × tyF × tyH × tyS × List Int × Bool) :=
 (f_impl_isOf x0 x1).bind fun y0 =>
 bif (!y0) then
 some (0, [], [], [], [], false)
 else
 bif (decide ((0 : Int) ≤ x1) && Nat.ble x1.toNat 4398046511104) then
 bif (decide ((0 : Int) ≤ x1) && Nat.ble x1.toNat 17592186044416) then
 (f_impl_NodeNew.l0 N x1 false 0 0 x0 ([] : tyF) ([] : tyH) ([] : tyS) ([] : List Int) (List.replicate 6 (0, [], false)) ([] : tyH) (List.replicate x1.toNat (0, [])) (List.replicate x1.toNat 0)).bind fun r1 =>
 some (r1.2.2.1, r1.2.2.2.2.2.2.2.1, r1.2.2.2.2.2.2.2.2.1, r1.2.2.2.2.2.2.2.2.2.1, r1.2.2.2.2.2.2.2.2.2.2, true)
 else none
 else none
noncomputable def C57 : Con := ⟨[(.B, false, [iI]), (.B, false, [iI])], [(true, [iI, (.sl R4), (.sl R5), (.sl R7), (.sl R1)]), (false, [.bool])], [iI, iI], [iI, (.sl R4), (.sl R5), (.sl R7), (.sl R1), .bool], ap2 f_impl_NodeNew⟩
noncomputable abbrev f_impl_NodeNew.l0.u (n : Nat) := ap13 (f_impl_NodeNew.l0 n)
noncomputable def f_impl_NodeNew.l0.c : LoopCon := ⟨1000, 6, [1, 4, 5, 6, 19], ⟨[(1, i0), (4, .ptr 1000 0), (5, .bool false), (6, .ptr 1001 0), (19, i0)], [(1000, .box [i0, .ref 1002 [] none, .ref 1003 [] none, .ref 1004 [] none, .ref 1005 [] none]), (1001, .box [i0, .ref 1006 [] none, .ref 1007 [] none, .ref 1008 [] none, .ref 1009 [] none]), (1002, .row R4 []), (1003, .row R5 []), (1004, .row R7 []), (1005, .row R1 []), (1006, .row R4 []), (1007, .row R5 []), (1008, .row R7 []), (1009, .row R1 [])], 1010⟩, [iI, .bool, iI, iI, iI, (.sl R4), (.sl R5), (.sl R7), (.sl R1), (.sl R4), (.sl R5), (.sl R7), (.sl R1)], [⟨.exit 0, [4, 5, 6], ⟨[(4, .ptr 1000 0), (5, .bool false), (6, .ptr 1001 0)], [(1000, .box [i0, .ref 1002 [] none, .ref 1003 [] none, .ref 1004 [] none, .ref 1005 [] none]), (1001, .box [i0, .ref 1006 [] none, .ref 1007 [] none, .ref 1008 [] none, .ref 1009 [] none]), (1002, .row R4 []), (1003, .row R5 []), (1004, .row R7 []), (1005, .row R1 []), (1006, .row R4 []), (1007, .row R5 []), (1008, .row R7 []), (1009, .row R1 [])], 1010⟩, [.bool, iI, iI, (.sl R4), (.sl R5), (.sl R7), (.sl R1), (.sl R4), (.sl R5), (.sl R7), (.sl R1)]⟩], f_impl_NodeNew.l0.u N⟩
noncomputable abbrev K57 : Cons := [(89, C89), (109, C109)]
noncomputable abbrev L57 : List (Nat × Loops) := [(57, [(5, f_impl_NodeNew.l0.c)])]
noncomputable abbrev X57 : Nat → Ctx := ctxOf tb K57 L57 Qe
theorem f_impl_NodeNew.l0.ok : ∀ n p, f_impl_NodeNew.l0.u n p = iterD (roundOf fs X57 6 57 5 false f_impl_NodeNew.l0.c) n p :=
 iter_of (l := f_impl_NodeNew.l0.u) (fun _ => rfl) (fun n p => by kernel_rfl)
theorem E57 : ∀ x, funRun fs X57 6 57 C57 x = C57.fn x := fun x => by kernel_rfl
theorem B57 : ConB Tryz.prog 57 C57 := ConB.make FS MIX TY (cons := K57) (L := L57) (ptrs := Qe) ⟨S89, S109, trivial⟩ trivial ⟨⟨⟨N, fun p => f_impl_NodeNew.l0.ok N p⟩, trivial⟩, trivial⟩ rfl rfl E57
theorem S57 : ConS Tryz.prog 57 C57 := B57.call rfl
noncomputable def f_impl_WorldNew.l0 : Nat → Int → Bool → Int → Int → Int → Int → tyN → tyP → tyN → tyP → Option (Bool × Int × Int × tyN × tyP × tyN × tyP)
 | 0, _, _, _, _, _, _, _, _, _, _ => none
 | n + 1, p0, p1, p2, p3, p4, p5, p6, p7, p8, p9 =>
 bif (decide (p3 < p2)) then
 (f_impl_NodeNew p3 p0).bind fun y10 =>
 bif (Nat.blt (p8.length + ([(y10.1, y10.2.1, y10.2.2.1, y10.2.2.2.1, y10.2.2.2.2.1)] : tyN).length) 1353245080339) then
 (some ((p8 ++ ([(y10.1, y10.2.1, y10.2.2.1, y10.2.2.2.1, y10.2.2.2.2.1)] : tyN)) : tyN)).bind fun z11 =>
 f_impl_WorldNew.l0 n p0 p1 p2 (IntKind.wrap .i64 (p3 + (1 : Int))) p4 p5 p6 p7 z11 p9
 else none
 else
 some (p1, p4, p5, p6, p7, p8, p9)
noncomputable def f_impl_WorldNew (x0 : Int) : Option (Int × tyN × tyP × Bool) :=
 (f_impl_from x0 1 4).bind fun y0 =>
 bif (!y0) then
 some (0, [], [], false)
 else
 (f_impl_WorldNew.l0 N x0 false x0 0 0 x0 ([] : tyN) ([] : tyP) ([] : tyN) ([] : tyP)).bind fun r1 =>
 some (r1.2.2.1, r1.2.2.2.2.2.1, r1.2.2.2.2.2.2, true)
noncomputable def C20 : Con := ⟨[(.B, false, [iI])], [(true, [iI, (.sl R8), (.sl R9)]), (false, [.bool])], [iI], [iI, (.sl R8), (.sl R9), .bool], fun (p : Int) => f_impl_WorldNew p⟩
noncomputable abbrev f_impl_WorldNew.l0.u (n : Nat) := ap10 (f_impl_WorldNew.l0 n)
noncomputable def f_impl_WorldNew.l0.c : LoopCon := ⟨1000, 6, [0, 2, 3, 4, 14, 15], ⟨[(0, i0), (2, .ptr 1000 0), (3, .bool false), (4, .ptr 1001 0), (14, i0), (15, i0)], [(1000, .box [i0, .ref 1002 [] none, .ref 1003 [] none]), (1001, .box [i0, .ref 1004 [] none, .ref 1005 [] none]), (1002, .row R8 []), (1003, .row R9 []), (1004, .row R8 []), (1005, .row R9 [])], 1006⟩, [iI, .bool, iI, iI, iI, iI, (.sl R8), (.sl R9), (.sl R8), (.sl R9)], [⟨.exit 0, [2, 3, 4], ⟨[(2, .ptr 1000 0), (3, .bool false), (4, .ptr 1001 0)], [(1000, .box [i0, .ref 1002 [] none, .ref 1003 [] none]), (1001, .box [i0, .ref 1004 [] none, .ref 1005 [] none]), (1002, .row R8 []), (1003, .row R9 []), (1004, .row R8 []), (1005, .row R9 [])], 1006⟩, [.bool, iI, iI, (.sl R8), (.sl R9), (.sl R8), (.sl R9)]⟩], f_impl_WorldNew.l0.u N⟩
noncomputable abbrev K20 : Cons := [(49, C49), (57, C57)]
noncomputable abbrev L20 : List (Nat × Loops) := [(20, [(5, f_impl_WorldNew.l0.c)])]
noncomputable abbrev X20 : Nat → Ctx := ctxOf tb K20 L20 Qe
theorem f_impl_WorldNew.l0.ok : ∀ n p, f_impl_WorldNew.l0.u n p = iterD (roundOf fs X20 6 20 5 false f_impl_WorldNew.l0.c) n p :=
 iter_of (l := f_impl_WorldNew.l0.u) (fun _ => rfl) (fun n p => by kernel_rfl)
theorem E20 : ∀ x, funRun fs X20 6 20 C20 x = C20.fn x := fun x => by kernel_rfl
theorem B20 : ConB Tryz.prog 20 C20 := ConB.make FS MIX TY (cons := K20) (L := L20) (ptrs := Qe) ⟨S49, S57, trivial⟩ trivial ⟨⟨⟨N, fun p => f_impl_WorldNew.l0.ok N p⟩, trivial⟩, trivial⟩ rfl rfl E20
theorem S20 : ConS Tryz.prog 20 C20 := B20.call rfl
noncomputable def f_impl_coming.l0 : Nat → Int → Int → tyM → Int → Int → Int → tyN → tyP → Int → tyM → tyM → Option (tyM)
 | 0, _, _, _, _, _, _, _, _, _, _, _ => none
 | n + 1, p0, p1, p2, p3, p4, p5, p6, p7, p8, p9, p10 =>
 bif (decide (p4 < p3)) then
 bif ((decide ((0 : Int) ≤ p4)) && (decide (p4 < (p2.length : Int)))) then
 bif ((decide ((0 : Int) ≤ p1)) && (decide (p1 < (p6.length : Int)))) then
 bif ((decide ((0 : Int) ≤ p0)) && (decide (p0 < (((p6.getD p1.toNat (0, [], [], [], [])).2.2.2.2).length : Int)))) then
 bif (decide ((((p6.getD p1.toNat (0, [], [], [], [])).2.2.2.2).getD p0.toNat 0) ≤ (IntKind.wrap .i64 (p8 + p4)))) then
 (f_impl_copyMsg ((p2.getD p4.toNat (0, 0, false, [])).1) ((p2.getD p4.toNat (0, 0, false, [])).2.1) ((p2.getD p4.toNat (0, 0, false, [])).2.2.1) ((p2.getD p4.toNat (0, 0, false, [])).2.2.2)).bind fun y11 =>
 bif (Nat.blt (p10.length + ([(y11.1, y11.2.1, y11.2.2.1, y11.2.2.2)] : tyM).length) 2932031007402) then
 (some ((p10 ++ ([(y11.1, y11.2.1, y11.2.2.1, y11.2.2.2)] : tyM)) : tyM)).bind fun z12 =>
 f_impl_coming.l0 n p0 p1 p2 p3 (IntKind.wrap .i64 (p4 + (1 : Int))) p5 p6 p7 p8 p9 z12
 else none
 else
 f_impl_coming.l0 n p0 p1 p2 p3 (IntKind.wrap .i64 (p4 + (1 : Int))) p5 p6 p7 p8 p9 p10
 else none
 else none
 else none
 else
 some p10
noncomputable def f_impl_coming (x0 : Int) (x1 : tyN) (x2 : tyP) (x3 : Int) (x4 : Int) : Option (tyM) :=
 bif ((decide ((0 : Int) ≤ x3)) && (decide (x3 < (x1.length : Int)))) then
 bif ((decide ((0 : Int) ≤ x4)) && (decide (x4 < (((x1.getD x3.toNat (0, [], [], [], [])).2.2.2.1).length : Int)))) then
 (f_impl_coming.l0 N x3 x4 ((((x1.getD x3.toNat (0, [], [], [], [])).2.2.2.1).getD x4.toNat (0, [])).2) (((((x1.getD x3.toNat (0, [], [], [], [])).2.2.2.1).getD x4.toNat (0, [])).2).length : Int) 0 x0 x1 x2 ((((x1.getD x3.toNat (0, [], [], [], [])).2.2.2.1).getD x4.toNat (0, [])).1) ((((x1.getD x3.toNat (0, [], [], [], [])).2.2.2.1).getD x4.toNat (0, [])).2) ([] : tyM)).bind fun r0 =>
 some r0
 else none
 else none
noncomputable def C112 : Con := ⟨[(.B, true, [iI, (.sl R8), (.sl R9)]), (.B, false, [iI]), (.B, false, [iI])], [(false, [(.sl R6)])], [iI, (.sl R8), (.sl R9), iI, iI], [(.sl R6)], ap5 f_impl_coming⟩
noncomputable abbrev f_impl_coming.l0.u (n : Nat) := ap11 (f_impl_coming.l0 n)
noncomputable def f_impl_coming.l0.c : LoopCon := ⟨1000, 6, [1, 2, 3, 6, 7, 8, 22, 23, 24], ⟨[(1, i0), (2, i0), (3, .ptr 1000 0), (6, .nil (some R6)), (7, .ptr 1001 0), (8, .ref 1002 [] none), (22, bN R6), (23, i0), (24, i0)], [(1000, .box [i0, bN R8, bN R9]), (1001, .box [i0, bN R6]), (1002, .row R6 [])], 1003⟩, [iI, iI, (.sl R6), iI, iI, iI, (.sl R8), (.sl R9), iI, (.sl R6), (.sl R6)], [⟨.exit 0, [6, 8], ⟨[(6, .nil (some R6)), (8, .ref 1000 [] none)], [(1000, .row R6 [])], 1001⟩, [(.sl R6)]⟩], f_impl_coming.l0.u N⟩
noncomputable abbrev K112 : Cons := [(132, C132)]
noncomputable abbrev L112 : List (Nat × Loops) := [(112, [(4, f_impl_coming.l0.c)])]
noncomputable abbrev X112 : Nat → Ctx := ctxOf tb K112 L112 Qe
theorem f_impl_coming.l0.ok : ∀ n p, f_impl_coming.l0.u n p = iterD (roundOf fs X112 6 112 4 false f_impl_coming.l0.c) n p :=
 iter_of (l := f_impl_coming.l0.u) (fun _ => rfl) (fun n p => by kernel_rfl)
theorem E112 : ∀ x, funRun fs X112 6 112 C112 x = C112.fn x := fun x => by kernel_rfl
theorem B112 : ConB Tryz.prog 112 C112 := ConB.make FS MIX TY (cons := K112) (L := L112) (ptrs := Qe) ⟨S132, trivial⟩ trivial ⟨⟨⟨N, fun p => f_impl_coming.l0.ok N p⟩, trivial⟩, trivial⟩ rfl rfl E112
theorem S112 : ConS Tryz.prog 112 C112 := B112.call rfl
noncomputable def f_slices_Reverse_impl_Msg_impl_Msg (x0 : tyM) : Option tyM := bif Nat.ble x0.length 9223372036854775807 then some x0.reverse else none
noncomputable def C113 : Con := ⟨[(.I, false, [(.sl R6)])], [], [(.sl R6)], [(.sl R6)], f_slices_Reverse_impl_Msg_impl_Msg⟩
theorem B113 : ConG Tryz.prog 113 C113 := ConG.reverse (r := R6) Tryz.reverse113 Tryz.isAgg79 Tryz.sizeOf79 (FS 113 Tryz.f113 rfl).enters
theorem S113 : ConS Tryz.prog 113 C113 := B113.call (by kernel_rfl)
noncomputable def f_impl_truth.l1 : Nat → Int → Int → Int → tyM → Option ((Int × tyM) ⊕ (Unit))
 | 0, _, _, _, _ => none
 | n + 1, p0, p1, p2, p3 =>
 bif (decide (p2 < p1)) then
 bif ((decide ((0 : Int) ≤ p2)) && (decide (p2 < (p3.length : Int)))) then
 bif (decide (((p3.getD p2.toNat (0, 0, false, [])).1) = (7 : Int))) then
 bif (decide (((p3.getD p2.toNat (0, 0, false, [])).2.1) = p0)) then
 some (.inl (p2, p3))
 else
 f_impl_truth.l1 n p0 p1 (IntKind.wrap .i64 (p2 + (1 : Int))) p3
 else
 f_impl_truth.l1 n p0 p1 (IntKind.wrap .i64 (p2 + (1 : Int))) p3
 else none
 else
 some (.inr ())
noncomputable def f_impl_truth.l0 : Nat → Int → Int → Int → Int → Int → tyN → tyP → (List Int) → Int → (List Bool) → Bool → Int → Bool → Int → tyW → tyM → Option ((Int × tyM) ⊕ (Int × Int × Int × tyN × tyP × List Int × Int × List Bool × Bool × Int × Bool × Int × tyW))
 | 0, _, _, _, _, _, _, _, _, _, _, _, _, _, _, _, _ => none
 | n + 1, p0, p1, p2, p3, p4, p5, p6, p7, p8, p9, p10, p11, p12, p13, p14, p15 =>
 bif (decide (p3 < p2)) then
 bif ((decide ((0 : Int) ≤ p3)) && (decide (p3 < (p15.length : Int)))) then
 bif (decide (((p15.getD p3.toNat (0, 0, false, [])).1) = (3 : Int))) then
 bif (p15.getD p3.toNat (0, 0, false, [])).2.2.1 then
 bif (decide (((p15.getD p3.toNat (0, 0, false, [])).2.1) = p0)) then
 some (.inl (p3, p15))
 else
 f_impl_truth.l0 n p0 p1 p2 (IntKind.wrap .i64 (p3 + (1 : Int))) p4 p5 p6 p7 p8 p9 p10 p11 p12 p13 p14 p15
 else
 f_impl_truth.l0 n p0 p1 p2 (IntKind.wrap .i64 (p3 + (1 : Int))) p4 p5 p6 p7 p8 p9 p10 p11 p12 p13 p14 p15
 else
 f_impl_truth.l0 n p0 p1 p2 (IntKind.wrap .i64 (p3 + (1 : Int))) p4 p5 p6 p7 p8 p9 p10 p11 p12 p13 p14 p15
 else none
 else
 some (.inr (p0, p1, p4, p5, p6, p7, p8, p9, p10, p11, p12, p13, p14))
noncomputable def f_impl_truth (x0 : Int) (x1 : tyN) (x2 : tyP) (x3 : Int) : Option (List Int) :=
 bif (decide (x0 = (0 : Int))) then none else
 bif ((decide ((0 : Int) ≤ (Int.tmod x3 x0))) && (decide ((Int.tmod x3 x0) < (x1.length : Int)))) then
 bif ((decide ((0 : Int) ≤ x3)) && (decide (x3 < (((x1.getD (Int.tmod x3 x0).toNat (0, [], [], [], [])).2.2.1).length : Int)))) then
 bif (decide (((((x1.getD (Int.tmod x3 x0).toNat (0, [], [], [], [])).2.2.1).getD x3.toNat ([], 0, [], false, 0, false, 0, [])).2.1) < (0 : Int))) then
 (f_slices_Clone_int_int ((((x1.getD (Int.tmod x3 x0).toNat (0, [], [], [], [])).2.2.1).getD x3.toNat ([], 0, [], false, 0, false, 0, [])).1)).bind fun y0 =>
 some y0
 else
 bif ((decide ((0 : Int) ≤ ((((x1.getD (Int.tmod x3 x0).toNat (0, [], [], [], [])).2.2.1).getD x3.toNat ([], 0, [], false, 0, false, 0, [])).2.1))) && (decide (((((x1.getD (Int.tmod x3 x0).toNat (0, [], [], [], [])).2.2.1).getD x3.toNat ([], 0, [], false, 0, false, 0, [])).2.1) < (x1.length : Int)))) then
 bif ((decide ((0 : Int) ≤ x3)) && (decide (x3 < (((x1.getD ((((x1.getD (Int.tmod x3 x0).toNat (0, [], [], [], [])).2.2.1).getD x3.toNat ([], 0, [], false, 0, false, 0, [])).2.1).toNat (0, [], [], [], [])).2.1).length : Int)))) then
 bif (decide (((((x1.getD ((((x1.getD (Int.tmod x3 x0).toNat (0, [], [], [], [])).2.2.1).getD x3.toNat ([], 0, [], false, 0, false, 0, [])).2.1).toNat (0, [], [], [], [])).2.1).getD x3.toNat (0, [], false)).1) = (2 : Int))) then
 (f_slices_Clone_int_int ((((x1.getD ((((x1.getD (Int.tmod x3 x0).toNat (0, [], [], [], [])).2.2.1).getD x3.toNat ([], 0, [], false, 0, false, 0, [])).2.1).toNat (0, [], [], [], [])).2.1).getD x3.toNat (0, [], false)).2.1)).bind fun y1 =>
 some y1
 else
 (f_impl_coming x0 x1 x2 (Int.tmod x3 x0) ((((x1.getD (Int.tmod x3 x0).toNat (0, [], [], [], [])).2.2.1).getD x3.toNat ([], 0, [], false, 0, false, 0, [])).2.1)).bind fun y2 =>
 (f_slices_Reverse_impl_Msg_impl_Msg y2).bind fun y3 =>
 (some (y3 : tyM)).bind fun z4 =>
 (f_impl_truth.l0 N x3 (Int.tmod x3 x0) (z4.length : Int) 0 x0 x1 x2 ((((x1.getD (Int.tmod x3 x0).toNat (0, [], [], [], [])).2.2.1).getD x3.toNat ([], 0, [], false, 0, false, 0, [])).1) ((((x1.getD (Int.tmod x3 x0).toNat (0, [], [], [], [])).2.2.1).getD x3.toNat ([], 0, [], false, 0, false, 0, [])).2.1) ((((x1.getD (Int.tmod x3 x0).toNat (0, [], [], [], [])).2.2.1).getD x3.toNat ([], 0, [], false, 0, false, 0, [])).2.2.1) ((((x1.getD (Int.tmod x3 x0).toNat (0, [], [], [], [])).2.2.1).getD x3.toNat ([], 0, [], false, 0, false, 0, [])).2.2.2.1) ((((x1.getD (Int.tmod x3 x0).toNat (0, [], [], [], [])).2.2.1).getD x3.toNat ([], 0, [], false, 0, false, 0, [])).2.2.2.2.1) ((((x1.getD (Int.tmod x3 x0).toNat (0, [], [], [], [])).2.2.1).getD x3.toNat ([], 0, [], false, 0, false, 0, [])).2.2.2.2.2.1) ((((x1.getD (Int.tmod x3 x0).toNat (0, [], [], [], [])).2.2.1).getD x3.toNat ([], 0, [], false, 0, false, 0, [])).2.2.2.2.2.2.1) ((((x1.getD (Int.tmod x3 x0).toNat (0, [], [], [], [])).2.2.1).getD x3.toNat ([], 0, [], false, 0, false, 0, [])).2.2.2.2.2.2.2) z4).bind fun r5 =>
 cs r5 (fun a6 =>
 some ((a6.2.getD a6.1.toNat (0, 0, false, [])).2.2.2)) (fun b7 =>
 (f_impl_coming b7.2.2.1 b7.2.2.2.1 b7.2.2.2.2.1 b7.2.2.2.2.2.2.1 b7.2.1).bind fun y8 =>
 (f_slices_Reverse_impl_Msg_impl_Msg y8).bind fun y9 =>
 (some (y9 : tyM)).bind fun z10 =>
 (f_impl_truth.l1 N b7.1 (z10.length : Int) 0 z10).bind fun r11 =>
 cs r11 (fun a12 =>
 some ((a12.2.getD a12.1.toNat (0, 0, false, [])).2.2.2)) (fun b13 =>
 some []))
 else none
 else none
 else none
 else none
noncomputable def C59 : Con := ⟨[(.B, true, [iI, (.sl R8), (.sl R9)]), (.B, false, [iI])], [(false, [(.sl R1)])], [iI, (.sl R8), (.sl R9), iI], [(.sl R1)], ap4 f_impl_truth⟩
noncomputable abbrev f_impl_truth.l0.u (n : Nat) := ap16 (f_impl_truth.l0 n)
noncomputable def f_impl_truth.l0.c : LoopCon := ⟨1000, 6, [1, 2, 4, 5, 6, 56, 57, 58], ⟨[(1, i0), (2, .ptr 1000 0), (4, .nil (some R1)), (5, i0), (6, .ptr 1001 0), (56, .ref 1002 [] none), (57, i0), (58, i0)], [(1000, .box [i0, bN R8, bN R9]), (1001, .box [bN R1, i0, bN R2, .bool false, i0, .bool false, i0, bN R3]), (1002, .row R6 [])], 1003⟩, [iI, iI, iI, iI, iI, (.sl R8), (.sl R9), (.sl R1), iI, (.sl R2), .bool, iI, .bool, iI, (.sl R3), (.sl R6)], [⟨.ret, [4], ⟨[(4, .ref 1000 [(0, 3)] none)], [(1000, .row R6 [])], 1001⟩, [iI, (.sl R6)]⟩, ⟨.exit 0, [1, 2, 4, 5, 6], ⟨[(1, i0), (2, .ptr 1000 0), (4, .nil (some R1)), (5, i0), (6, .ptr 1001 0)], [(1000, .box [i0, bN R8, bN R9]), (1001, .box [bN R1, i0, bN R2, .bool false, i0, .bool false, i0, bN R3])], 1002⟩, [iI, iI, iI, (.sl R8), (.sl R9), (.sl R1), iI, (.sl R2), .bool, iI, .bool, iI, (.sl R3)]⟩], f_impl_truth.l0.u N⟩
noncomputable abbrev f_impl_truth.l1.u (n : Nat) := ap4 (f_impl_truth.l1 n)
noncomputable def f_impl_truth.l1.c : LoopCon := ⟨1000, 6, [1, 4, 85, 86, 87], ⟨[(1, i0), (4, .nil (some R1)), (85, .ref 1000 [] none), (86, i0), (87, i0)], [(1000, .row R6 [])], 1001⟩, [iI, iI, iI, (.sl R6)], [⟨.ret, [4], ⟨[(4, .ref 1000 [(0, 3)] none)], [(1000, .row R6 [])], 1001⟩, [iI, (.sl R6)]⟩, ⟨.exit 2, [4], ⟨[(4, .nil (some R1))], [], 1000⟩, []⟩], f_impl_truth.l1.u N⟩
noncomputable abbrev K59 : Cons := [(111, C111), (112, C112), (113, C113)]
noncomputable abbrev L59 : List (Nat × Loops) := [(59, [(11, f_impl_truth.l0.c), (19, f_impl_truth.l1.c)])]
noncomputable abbrev X59 : Nat → Ctx := ctxOf tb K59 L59 Qe
theorem f_impl_truth.l0.ok : ∀ n p, f_impl_truth.l0.u n p = iterD (roundOf fs X59 6 59 11 false f_impl_truth.l0.c) n p :=
 iter_of (l := f_impl_truth.l0.u) (fun _ => rfl) (fun n p => by kernel_rfl)
theorem f_impl_truth.l1.ok : ∀ n p, f_impl_truth.l1.u n p = iterD (roundOf fs X59 6 59 19 false f_impl_truth.l1.c) n p :=
 iter_of (l := f_impl_truth.l1.u) (fun _ => rfl) (fun n p => by kernel_rfl)
theorem E59 : ∀ x, funRun fs X59 6 59 C59 x = C59.fn x := fun x => by kernel_rfl
theorem B59 : ConB Tryz.prog 59 C59 := ConB.make FS MIX TY (cons := K59) (L := L59) (ptrs := Qe) ⟨S111, S112, S113, trivial⟩ trivial ⟨⟨⟨N, fun p => f_impl_truth.l0.ok N p⟩, ⟨N, fun p => f_impl_truth.l1.ok N p⟩, trivial⟩, trivial⟩ rfl rfl E59
theorem S59 : ConS Tryz.prog 59 C59 := B59.call rfl
noncomputable def f_impl_alone.l0 : Nat → Int → Bool → Int → Int → tyN → Int → Int → Option (Bool × Int × Int)
 | 0, _, _, _, _, _, _, _ => none
 | n + 1, p0, p1, p2, p3, p4, p5, p6 =>
 bif (decide (p6 < p5)) then
 bif ((decide ((0 : Int) ≤ p6)) && (decide (p6 < (p4.length : Int)))) then
 bif ((decide ((0 : Int) ≤ p0)) && (decide (p0 < (((p4.getD p6.toNat (0, [], [], [], [])).2.1).length : Int)))) then
 bif (decide (((((p4.getD p6.toNat (0, [], [], [], [])).2.1).getD p0.toNat (0, [], false)).1) = (2 : Int))) then
 f_impl_alone.l0 n p0 p1 (IntKind.wrap .i64 (p2 + (1 : Int))) (IntKind.wrap .i64 (p3 + (1 : Int))) p4 p5 (IntKind.wrap .i64 (p6 + (1 : Int)))
 else
 bif (decide (((((p4.getD p6.toNat (0, [], [], [], [])).2.1).getD p0.toNat (0, [], false)).1) = (1 : Int))) then
 f_impl_alone.l0 n p0 p1 (IntKind.wrap .i64 (p2 + (1 : Int))) p3 p4 p5 (IntKind.wrap .i64 (p6 + (1 : Int)))
 else
 f_impl_alone.l0 n p0 p1 p2 p3 p4 p5 (IntKind.wrap .i64 (p6 + (1 : Int)))
 else none
 else none
 else
 some (p1, p2, p3)
noncomputable def f_impl_alone (x0 : Int) (x1 : tyN) (x2 : tyP) (x3 : Int) : Option (Bool) :=
 (f_impl_alone.l0 N x3 false 0 0 x1 (x1.length : Int) 0).bind fun r0 =>
 bif (decide (r0.2.2 = (0 : Int))) then
 some true
 else
 some (decide (r0.2.1 = (1 : Int)))
noncomputable def C60 : Con := ⟨[(.B, true, [iI, (.sl R8), (.sl R9)]), (.B, false, [iI])], [(false, [.bool])], [iI, (.sl R8), (.sl R9), iI], [.bool], ap4 f_impl_alone⟩
noncomputable abbrev f_impl_alone.l0.u (n : Nat) := ap7 (f_impl_alone.l0 n)
noncomputable def f_impl_alone.l0.c : LoopCon := ⟨1000, 6, [1, 4, 5, 6, 10, 11, 12], ⟨[(1, i0), (4, .bool false), (5, i0), (6, i0), (10, bN R8), (11, i0), (12, i0)], [], 1000⟩, [iI, .bool, iI, iI, (.sl R8), iI, iI], [⟨.exit 0, [4, 5, 6], ⟨[(4, .bool false), (5, i0), (6, i0)], [], 1000⟩, [.bool, iI, iI]⟩], f_impl_alone.l0.u N⟩
noncomputable abbrev L60 : List (Nat × Loops) := [(60, [(3, f_impl_alone.l0.c)])]
noncomputable abbrev X60 : Nat → Ctx := ctxOf tb Ke L60 Qe
theorem f_impl_alone.l0.ok : ∀ n p, f_impl_alone.l0.u n p = iterD (roundOf fs X60 6 60 3 false f_impl_alone.l0.c) n p :=
 iter_of (l := f_impl_alone.l0.u) (fun _ => rfl) (fun n p => by kernel_rfl)
theorem E60 : ∀ x, funRun fs X60 6 60 C60 x = C60.fn x := fun x => by kernel_rfl
theorem B60 : ConB Tryz.prog 60 C60 := ConB.make FS MIX TY (cons := Ke) (L := L60) (ptrs := Qe) trivial trivial ⟨⟨⟨N, fun p => f_impl_alone.l0.ok N p⟩, trivial⟩, trivial⟩ rfl rfl E60
theorem S60 : ConS Tryz.prog 60 C60 := B60.call rfl
noncomputable def f_slices_Equal_int_int.l0 : Nat → (List Int) → (List Int) → Bool → Int → Int → Option ((Bool) ⊕ (Bool))
 | 0, _, _, _, _, _ => none
 | n + 1, p0, p1, p2, p3, p4 =>
 bif (decide (p4 < p3)) then
 bif ((decide ((0 : Int) ≤ p4)) && (decide (p4 < (p0.length : Int)))) then
 bif ((decide ((0 : Int) ≤ p4)) && (decide (p4 < (p1.length : Int)))) then
 bif (!(decide ((p0.getD p4.toNat 0) = (p1.getD p4.toNat 0)))) then
 some (.inl false)
 else
 f_slices_Equal_int_int.l0 n p0 p1 p2 p3 (IntKind.wrap .i64 (p4 + (1 : Int)))
 else none
 else none
 else
 some (.inr p2)
noncomputable def f_slices_Equal_int_int (x0 : List Int) (x1 : List Int) : Option (Bool) :=
 bif (!(decide ((x0.length : Int) = (x1.length : Int)))) then
 some false
 else
 (f_slices_Equal_int_int.l0 N x0 x1 false (x0.length : Int) 0).bind fun r0 =>
 cs r0 (fun a1 =>
 some a1) (fun b2 =>
 some true)
noncomputable def C61 : Con := ⟨[(.B, false, [(.sl R1)]), (.B, false, [(.sl R1)])], [(false, [.bool])], [(.sl R1), (.sl R1)], [.bool], ap2 f_slices_Equal_int_int⟩
noncomputable abbrev f_slices_Equal_int_int.l0.u (n : Nat) := ap5 (f_slices_Equal_int_int.l0 n)
noncomputable def f_slices_Equal_int_int.l0.c : LoopCon := ⟨1000, 6, [0, 1, 4, 12, 13], ⟨[(0, bN R1), (1, bN R1), (4, .bool false), (12, i0), (13, i0)], [], 1000⟩, [(.sl R1), (.sl R1), .bool, iI, iI], [⟨.ret, [4], ⟨[(4, .bool false)], [], 1000⟩, [.bool]⟩, ⟨.exit 0, [4], ⟨[(4, .bool false)], [], 1000⟩, [.bool]⟩], f_slices_Equal_int_int.l0.u N⟩
noncomputable abbrev L61 : List (Nat × Loops) := [(61, [(4, f_slices_Equal_int_int.l0.c)])]
noncomputable abbrev X61 : Nat → Ctx := ctxOf tb Ke L61 Qe
theorem f_slices_Equal_int_int.l0.ok : ∀ n p, f_slices_Equal_int_int.l0.u n p = iterD (roundOf fs X61 6 61 4 false f_slices_Equal_int_int.l0.c) n p :=
 iter_of (l := f_slices_Equal_int_int.l0.u) (fun _ => rfl) (fun n p => by kernel_rfl)
theorem E61 : ∀ x, funRun fs X61 6 61 C61 x = C61.fn x := fun x => by kernel_rfl
theorem B61 : ConB Tryz.prog 61 C61 := ConB.make FS MIX TY (cons := Ke) (L := L61) (ptrs := Qe) trivial trivial ⟨⟨⟨N, fun p => f_slices_Equal_int_int.l0.ok N p⟩, trivial⟩, trivial⟩ rfl rfl E61
theorem S61 : ConS Tryz.prog 61 C61 := B61.call rfl
noncomputable def f_impl_Sane.l3 : Nat → Bool → Int → tyN → Int → Int → Bool → Int → Int → tyF → tyH → tyS → (List Int) → tyN → Int → Int → Int → tyN → tyP → Int → tyF → tyH → tyS → (List Int) → Option ((Bool) ⊕ (Bool × Int × tyN × Int × Int × Bool × Int × Int × tyF × tyH × tyS × List Int × tyN × Int × Int × Bool × Int × tyN × tyP × Int × tyF × tyH × tyS × List Int))
 | 0, _, _, _, _, _, _, _, _, _, _, _, _, _, _, _, _, _, _, _, _, _, _, _ => none
 | n + 1, p0, p1, p2, p3, p4, p5, p6, p7, p8, p9, p10, p11, p12, p13, p14, p15, p16, p17, p18, p19, p20, p21, p22 =>
 bif (decide (p14 < p13)) then
 bif ((decide ((0 : Int) ≤ p14)) && (decide (p14 < (p12.length : Int)))) then
 bif ((decide ((0 : Int) ≤ p14)) && (decide (p14 < (p22.length : Int)))) then
 bif ((decide ((0 : Int) ≤ p1)) && (decide (p1 < (((p12.getD p14.toNat (0, [], [], [], [])).2.2.2.1).length : Int)))) then
 bif ((decide ((0 : Int) ≤ p1)) && (decide (p1 < (((p12.getD p14.toNat (0, [], [], [], [])).2.2.2.1).length : Int)))) then
 bif (decide ((IntKind.wrap .i64 (((((p12.getD p14.toNat (0, [], [], [], [])).2.2.2.1).getD p1.toNat (0, [])).1) + (((((p12.getD p14.toNat (0, [], [], [], [])).2.2.2.1).getD p1.toNat (0, [])).2).length : Int))) < (p22.getD p14.toNat 0))) then
 some (.inl false)
 else
 f_impl_Sane.l3 n p0 p1 p2 p3 p4 p5 p6 p7 p8 p9 p10 p11 p12 p13 (IntKind.wrap .i64 (p14 + (1 : Int))) p15 p16 p17 p18 p19 p20 p21 p22
 else none
 else none
 else none
 else none
 else
 some (.inr (p0, p1, p2, p3, p4, p5, p6, p7, p8, p9, p10, p11, p12, p13, p14, false, p15, p16, p17, p18, p19, p20, p21, p22))
noncomputable def f_impl_Sane.l2 : Nat → Bool → tyN → Int → Int → Int → tyN → tyP → Option ((Bool) ⊕ (Bool))
 | 0, _, _, _, _, _, _, _ => none
 | n + 1, p0, p1, p2, p3, p4, p5, p6 =>
 bif (decide (p3 < p2)) then
 bif ((decide ((0 : Int) ≤ p3)) && (decide (p3 < (p1.length : Int)))) then
 (f_impl_Sane.l3 N p0 p3 p1 p2 p3 true p3 ((p1.getD p3.toNat (0, [], [], [], [])).1) ((p1.getD p3.toNat (0, [], [], [], [])).2.1) ((p1.getD p3.toNat (0, [], [], [], [])).2.2.1) ((p1.getD p3.toNat (0, [], [], [], [])).2.2.2.1) ((p1.getD p3.toNat (0, [], [], [], [])).2.2.2.2) p5 (p5.length : Int) 0 p4 p5 p6 ((p1.getD p3.toNat (0, [], [], [], [])).1) ((p1.getD p3.toNat (0, [], [], [], [])).2.1) ((p1.getD p3.toNat (0, [], [], [], [])).2.2.1) ((p1.getD p3.toNat (0, [], [], [], [])).2.2.2.1) ((p1.getD p3.toNat (0, [], [], [], [])).2.2.2.2)).bind fun r7 =>
 cs r7 (fun a8 =>
 some (.inl a8)) (fun b9 =>
 f_impl_Sane.l2 n b9.1 b9.2.2.1 b9.2.2.2.1 (IntKind.wrap .i64 (b9.2.2.2.2.1 + (1 : Int))) b9.2.2.2.2.2.2.2.2.2.2.2.2.2.2.2.2.1 b9.2.2.2.2.2.2.2.2.2.2.2.2.2.2.2.2.2.1 b9.2.2.2.2.2.2.2.2.2.2.2.2.2.2.2.2.2.2.1)
 else none
 else
 some (.inr p0)
noncomputable def f_impl_Sane.l1 : Nat → Bool → Int → Int → Bool → Int → Int → tyN → tyP → Int → Int → tyN → tyP → Int → Bool → Bool → Bool → Int → Bool → Bool → tyN → Int → Int → Int → tyN → tyP → (List Int) → Option ((Bool) ⊕ (Bool × Int × Int × Bool × Int × Int × tyN × tyP × Int × Int × tyN × tyP × Int × Bool × Bool × Bool × Int × Bool × Bool × tyN × Int × Int × Bool × Int × tyN × tyP × List Int))
 | 0, _, _, _, _, _, _, _, _, _, _, _, _, _, _, _, _, _, _, _, _, _, _, _, _, _, _ => none
 | n + 1, p0, p1, p2, p3, p4, p5, p6, p7, p8, p9, p10, p11, p12, p13, p14, p15, p16, p17, p18, p19, p20, p21, p22, p23, p24, p25 =>
 bif (decide (p21 < p20)) then
 bif ((decide ((0 : Int) ≤ p21)) && (decide (p21 < (p19.length : Int)))) then
 bif ((decide ((0 : Int) ≤ p1)) && (decide (p1 < (((p19.getD p21.toNat (0, [], [], [], [])).2.1).length : Int)))) then
 bif (!(decide (((((p19.getD p21.toNat (0, [], [], [], [])).2.1).getD p1.toNat (0, [], false)).1) = (0 : Int)))) then
 (f_slices_Equal_int_int ((((p19.getD p21.toNat (0, [], [], [], [])).2.1).getD p1.toNat (0, [], false)).2.1) p25).bind fun y26 =>
 bif (!y26) then
 some (.inl false)
 else
 f_impl_Sane.l1 n p0 p1 p2 p3 p4 p5 p6 p7 p8 p9 p10 p11 p12 p13 p14 p15 p16 p17 p18 p19 p20 (IntKind.wrap .i64 (p21 + (1 : Int))) p22 p23 p24 p25
 else
 f_impl_Sane.l1 n p0 p1 p2 p3 p4 p5 p6 p7 p8 p9 p10 p11 p12 p13 p14 p15 p16 p17 p18 p19 p20 (IntKind.wrap .i64 (p21 + (1 : Int))) p22 p23 p24 p25
 else none
 else none
 else
 some (.inr (p0, p1, p2, p3, p4, p5, p6, p7, p8, p9, p10, p11, p12, p13, p14, p15, p16, p17, p18, p19, p20, p21, false, p22, p23, p24, p25))
noncomputable def f_impl_Sane.l0 : Nat → Bool → Int → Int → tyN → tyP → Option ((Bool) ⊕ (Bool × Int × tyN × tyP))
 | 0, _, _, _, _, _ => none
 | n + 1, p0, p1, p2, p3, p4 =>
 bif (decide (p1 < (6 : Int))) then
 (f_impl_truth p2 p3 p4 p1).bind fun y5 =>
 (f_impl_alone p2 p3 p4 p1).bind fun y6 =>
 bif (!y6) then
 some (.inl false)
 else
 bif (!(decide ((y5.length : Int) = (4 : Int)))) then
 some (.inl false)
 else
 (f_impl_Sane.l1 N p0 p1 p1 true p1 p2 p3 p4 p1 p2 p3 p4 p1 y6 (!y6) false (y5.length : Int) (!(decide ((y5.length : Int) = (4 : Int)))) false p3 (p3.length : Int) 0 p2 p3 p4 y5).bind fun r7 =>
 cs r7 (fun a8 =>
 some (.inl a8)) (fun b9 =>
 f_impl_Sane.l0 n b9.1 (IntKind.wrap .i64 (b9.2.2.1 + (1 : Int))) b9.2.2.2.2.2.2.2.2.2.2.2.2.2.2.2.2.2.2.2.2.2.2.2.1 b9.2.2.2.2.2.2.2.2.2.2.2.2.2.2.2.2.2.2.2.2.2.2.2.2.1 b9.2.2.2.2.2.2.2.2.2.2.2.2.2.2.2.2.2.2.2.2.2.2.2.2.2.1)
 else
 some (.inr (p0, p2, p3, p4))
noncomputable def f_impl_Sane (x0 : Int) (x1 : tyN) (x2 : tyP) : Option (Bool) :=
 (f_impl_WorldOk x0 x1 x2).bind fun y0 =>
 bif (!y0) then
 some false
 else
 (f_impl_Sane.l0 N false 0 x0 x1 x2).bind fun r1 =>
 cs r1 (fun a2 =>
 some a2) (fun b3 =>
 (f_impl_Sane.l2 N b3.1 b3.2.2.1 (b3.2.2.1.length : Int) 0 b3.2.1 b3.2.2.1 b3.2.2.2).bind fun r4 =>
 cs r4 (fun a5 =>
 some a5) (fun b6 =>
 some true))
noncomputable def C22 : Con := ⟨[(.B, true, [iI, (.sl R8), (.sl R9)])], [(false, [.bool])], [iI, (.sl R8), (.sl R9)], [.bool], ap3 f_impl_Sane⟩
noncomputable abbrev f_impl_Sane.l0.u (n : Nat) := ap5 (f_impl_Sane.l0 n)
noncomputable def f_impl_Sane.l0.c : LoopCon := ⟨1000, 6, [1, 2, 15], ⟨[(1, .ptr 1000 0), (2, .bool false), (15, i0)], [(1000, .box [i0, bN R8, bN R9])], 1001⟩, [.bool, iI, iI, (.sl R8), (.sl R9)], [⟨.ret, [2], ⟨[(2, .bool false)], [], 1000⟩, [.bool]⟩, ⟨.exit 0, [1, 2], ⟨[(1, .ptr 1000 0), (2, .bool false)], [(1000, .box [i0, bN R8, bN R9])], 1001⟩, [.bool, iI, (.sl R8), (.sl R9)]⟩], f_impl_Sane.l0.u N⟩
noncomputable abbrev f_impl_Sane.l1.u (n : Nat) := fun (p : Bool × Int × Int × Bool × Int × Int × tyN × tyP × Int × Int × tyN × tyP × Int × Bool × Bool × Bool × Int × Bool × Bool × tyN × Int × Int × Int × tyN × tyP × List Int) => f_impl_Sane.l1 n p.1 p.2.1 p.2.2.1 p.2.2.2.1 p.2.2.2.2.1 p.2.2.2.2.2.1 p.2.2.2.2.2.2.1 p.2.2.2.2.2.2.2.1 p.2.2.2.2.2.2.2.2.1 p.2.2.2.2.2.2.2.2.2.1 p.2.2.2.2.2.2.2.2.2.2.1 p.2.2.2.2.2.2.2.2.2.2.2.1 p.2.2.2.2.2.2.2.2.2.2.2.2.1 p.2.2.2.2.2.2.2.2.2.2.2.2.2.1 p.2.2.2.2.2.2.2.2.2.2.2.2.2.2.1 p.2.2.2.2.2.2.2.2.2.2.2.2.2.2.2.1 p.2.2.2.2.2.2.2.2.2.2.2.2.2.2.2.2.1 p.2.2.2.2.2.2.2.2.2.2.2.2.2.2.2.2.2.1 p.2.2.2.2.2.2.2.2.2.2.2.2.2.2.2.2.2.2.1 p.2.2.2.2.2.2.2.2.2.2.2.2.2.2.2.2.2.2.2.1 p.2.2.2.2.2.2.2.2.2.2.2.2.2.2.2.2.2.2.2.2.1 p.2.2.2.2.2.2.2.2.2.2.2.2.2.2.2.2.2.2.2.2.2.1 p.2.2.2.2.2.2.2.2.2.2.2.2.2.2.2.2.2.2.2.2.2.2.1 p.2.2.2.2.2.2.2.2.2.2.2.2.2.2.2.2.2.2.2.2.2.2.2.1 p.2.2.2.2.2.2.2.2.2.2.2.2.2.2.2.2.2.2.2.2.2.2.2.2.1 p.2.2.2.2.2.2.2.2.2.2.2.2.2.2.2.2.2.2.2.2.2.2.2.2.2
noncomputable def f_impl_Sane.l1.c : LoopCon := ⟨1000, 6, [1, 2, 3, 4, 15, 16, 17, 18, 19, 20, 21, 22, 23, 24, 25, 26, 27, 28, 29, 30, 31, 32, 33], ⟨[(1, .ptr 1000 0), (2, .bool false), (3, i0), (4, .ref 1001 [] none), (15, i0), (16, .bool false), (17, i0), (18, .agg [i0, bN R8, bN R9]), (19, i0), (20, .ref 1001 [] none), (21, .agg [i0, bN R8, bN R9]), (22, i0), (23, .bool false), (24, .bool false), (25, .bool false), (26, .ref 1001 [] none), (27, i0), (28, .bool false), (29, .bool false), (30, .ptr 1000 1), (31, bN R8), (32, i0), (33, i0)], [(1000, .box [i0, bN R8, bN R9]), (1001, .row R1 [])], 1002⟩, [.bool, iI, iI, .bool, iI, iI, (.sl R8), (.sl R9), iI, iI, (.sl R8), (.sl R9), iI, .bool, .bool, .bool, iI, .bool, .bool, (.sl R8), iI, iI, iI, (.sl R8), (.sl R9), (.sl R1)], [⟨.ret, [2], ⟨[(2, .bool false)], [], 1000⟩, [.bool]⟩, ⟨.exit 2, [1, 2, 3, 4, 15, 16, 17, 18, 19, 20, 21, 22, 23, 24, 25, 26, 27, 28, 29, 30, 31, 32, 33, 34], ⟨[(1, .ptr 1000 0), (2, .bool false), (3, i0), (4, .ref 1001 [] none), (15, i0), (16, .bool false), (17, i0), (18, .agg [i0, bN R8, bN R9]), (19, i0), (20, .ref 1001 [] none), (21, .agg [i0, bN R8, bN R9]), (22, i0), (23, .bool false), (24, .bool false), (25, .bool false), (26, .ref 1001 [] none), (27, i0), (28, .bool false), (29, .bool false), (30, .ptr 1000 1), (31, bN R8), (32, i0), (33, i0), (34, .bool false)], [(1000, .box [i0, bN R8, bN R9]), (1001, .row R1 [])], 1002⟩, [.bool, iI, iI, .bool, iI, iI, (.sl R8), (.sl R9), iI, iI, (.sl R8), (.sl R9), iI, .bool, .bool, .bool, iI, .bool, .bool, (.sl R8), iI, iI, .bool, iI, (.sl R8), (.sl R9), (.sl R1)]⟩], f_impl_Sane.l1.u N⟩
noncomputable abbrev f_impl_Sane.l2.u (n : Nat) := ap7 (f_impl_Sane.l2 n)
noncomputable def f_impl_Sane.l2.c : LoopCon := ⟨1000, 6, [1, 2, 55, 56, 57], ⟨[(1, .ptr 1000 0), (2, .bool false), (55, bN R8), (56, i0), (57, i0)], [(1000, .box [i0, bN R8, bN R9])], 1001⟩, [.bool, (.sl R8), iI, iI, iI, (.sl R8), (.sl R9)], [⟨.ret, [2], ⟨[(2, .bool false)], [], 1000⟩, [.bool]⟩, ⟨.exit 4, [2], ⟨[(2, .bool false)], [], 1000⟩, [.bool]⟩], f_impl_Sane.l2.u N⟩
noncomputable abbrev f_impl_Sane.l3.u (n : Nat) := fun (p : Bool × Int × tyN × Int × Int × Bool × Int × Int × tyF × tyH × tyS × List Int × tyN × Int × Int × Int × tyN × tyP × Int × tyF × tyH × tyS × List Int) => f_impl_Sane.l3 n p.1 p.2.1 p.2.2.1 p.2.2.2.1 p.2.2.2.2.1 p.2.2.2.2.2.1 p.2.2.2.2.2.2.1 p.2.2.2.2.2.2.2.1 p.2.2.2.2.2.2.2.2.1 p.2.2.2.2.2.2.2.2.2.1 p.2.2.2.2.2.2.2.2.2.2.1 p.2.2.2.2.2.2.2.2.2.2.2.1 p.2.2.2.2.2.2.2.2.2.2.2.2.1 p.2.2.2.2.2.2.2.2.2.2.2.2.2.1 p.2.2.2.2.2.2.2.2.2.2.2.2.2.2.1 p.2.2.2.2.2.2.2.2.2.2.2.2.2.2.2.1 p.2.2.2.2.2.2.2.2.2.2.2.2.2.2.2.2.1 p.2.2.2.2.2.2.2.2.2.2.2.2.2.2.2.2.2.1 p.2.2.2.2.2.2.2.2.2.2.2.2.2.2.2.2.2.2.1 p.2.2.2.2.2.2.2.2.2.2.2.2.2.2.2.2.2.2.2.1 p.2.2.2.2.2.2.2.2.2.2.2.2.2.2.2.2.2.2.2.2.1 p.2.2.2.2.2.2.2.2.2.2.2.2.2.2.2.2.2.2.2.2.2.1 p.2.2.2.2.2.2.2.2.2.2.2.2.2.2.2.2.2.2.2.2.2.2
noncomputable def f_impl_Sane.l3.c : LoopCon := ⟨1000, 6, [1, 2, 8, 9, 55, 56, 57, 58, 59, 61, 62, 63, 64, 65], ⟨[(1, .ptr 1000 0), (2, .bool false), (8, i0), (9, .ptr 1001 0), (55, bN R8), (56, i0), (57, i0), (58, .bool false), (59, i0), (61, .agg [i0, bN R4, bN R5, bN R7, bN R1]), (62, .ptr 1000 1), (63, bN R8), (64, i0), (65, i0)], [(1000, .box [i0, bN R8, bN R9]), (1001, .box [i0, bN R4, bN R5, bN R7, bN R1])], 1002⟩, [.bool, iI, (.sl R8), iI, iI, .bool, iI, iI, (.sl R4), (.sl R5), (.sl R7), (.sl R1), (.sl R8), iI, iI, iI, (.sl R8), (.sl R9), iI, (.sl R4), (.sl R5), (.sl R7), (.sl R1)], [⟨.ret, [2], ⟨[(2, .bool false)], [], 1000⟩, [.bool]⟩, ⟨.exit 6, [1, 2, 8, 9, 55, 56, 57, 58, 59, 61, 62, 63, 64, 65, 66], ⟨[(1, .ptr 1000 0), (2, .bool false), (8, i0), (9, .ptr 1001 0), (55, bN R8), (56, i0), (57, i0), (58, .bool false), (59, i0), (61, .agg [i0, bN R4, bN R5, bN R7, bN R1]), (62, .ptr 1000 1), (63, bN R8), (64, i0), (65, i0), (66, .bool false)], [(1000, .box [i0, bN R8, bN R9]), (1001, .box [i0, bN R4, bN R5, bN R7, bN R1])], 1002⟩, [.bool, iI, (.sl R8), iI, iI, .bool, iI, iI, (.sl R4), (.sl R5), (.sl R7), (.sl R1), (.sl R8), iI, iI, .bool, iI, (.sl R8), (.sl R9), iI, (.sl R4), (.sl R5), (.sl R7), (.sl R1)]⟩], f_impl_Sane.l3.u N⟩
noncomputable abbrev K22 : Cons := [(17, C17), (59, C59), (60, C60), (61, C61)]
noncomputable abbrev L22 : List (Nat × Loops) := [(22, [(4, f_impl_Sane.l0.c), (10, f_impl_Sane.l1.c), (18, f_impl_Sane.l2.c), (21, f_impl_Sane.l3.c)])]
noncomputable abbrev X22 : Nat → Ctx := ctxOf tb K22 L22 Qe
theorem f_impl_Sane.l0.ok : ∀ n p, f_impl_Sane.l0.u n p = iterD (roundOf fs X22 6 22 4 false f_impl_Sane.l0.c) n p :=
 iter_of (l := f_impl_Sane.l0.u) (fun _ => rfl) (fun n p => by kernel_rfl)
theorem f_impl_Sane.l1.ok : ∀ n p, f_impl_Sane.l1.u n p = iterD (roundOf fs X22 6 22 10 false f_impl_Sane.l1.c) n p :=
 iter_of (l := f_impl_Sane.l1.u) (fun _ => rfl) (fun n p => by kernel_rfl)
theorem f_impl_Sane.l2.ok : ∀ n p, f_impl_Sane.l2.u n p = iterD (roundOf fs X22 6 22 18 false f_impl_Sane.l2.c) n p :=
 iter_of (l := f_impl_Sane.l2.u) (fun _ => rfl) (fun n p => by kernel_rfl)
theorem f_impl_Sane.l3.ok : ∀ n p, f_impl_Sane.l3.u n p = iterD (roundOf fs X22 6 22 21 false f_impl_Sane.l3.c) n p :=
 iter_of (l := f_impl_Sane.l3.u) (fun _ => rfl) (fun n p => by kernel_rfl)
theorem E22 : ∀ x, funRun fs X22 6 22 C22 x = C22.fn x := fun x => by kernel_rfl
theorem B22 : ConB Tryz.prog 22 C22 := ConB.make FS MIX TY (cons := K22) (L := L22) (ptrs := Qe) ⟨S17, S59, S60, S61, trivial⟩ trivial ⟨⟨⟨N, fun p => f_impl_Sane.l0.ok N p⟩, ⟨N, fun p => f_impl_Sane.l1.ok N p⟩, ⟨N, fun p => f_impl_Sane.l2.ok N p⟩, ⟨N, fun p => f_impl_Sane.l3.ok N p⟩, trivial⟩, trivial⟩ rfl rfl E22
theorem S22 : ConS Tryz.prog 22 C22 := B22.call rfl
noncomputable def f_laws_FnDeeds (x0 : List Int) : Option (Bool) :=
 (f_laws_big x0).bind fun y0 =>
 bif y0 then
 some true
 else
 (f_spec_DrawWorldDo x0).bind fun y1 =>
 (f_impl_WorldDo y1.1 y1.2.1 y1.2.2.1 y1.2.2.2.1 y1.2.2.2.2.1 y1.2.2.2.2.2.1 y1.2.2.2.2.2.2).bind fun y2 =>
 (f_spec_WorldDo y1.1 y1.2.1 y1.2.2.1 y1.2.2.2.1 y1.2.2.2.2.1 y1.2.2.2.2.2.1 y1.2.2.2.2.2.2).bind fun y3 =>
 bif (!(decide (y2.2.2.2 = y3.2.2.2))) then
 some false
 else
 (f_laws_sameWorld y2.1 y2.2.1 y2.2.2.1 y3.1 y3.2.1 y3.2.2.1).bind fun y4 =>
 bif (!y4) then
 some false
 else
 (f_impl_WorldOk y1.1 y1.2.1 y1.2.2.1).bind fun y5 =>
 (f_spec_WorldOk y1.1 y1.2.1 y1.2.2.1).bind fun y6 =>
 bif (!(y5 == y6)) then
 some false
 else
 (f_spec_DrawWorldNew x0).bind fun y7 =>
 (f_impl_WorldNew y7).bind fun y8 =>
 (f_spec_WorldNew y7).bind fun y9 =>
 bif (!(y8.2.2.2 == y9.2.2.2)) then
 some false
 else
 bif y8.2.2.2 then
 (f_impl_WorldOk y8.1 y8.2.1 y8.2.2.1).bind fun y10 =>
 bif (!y10) then
 some false
 else
 (f_impl_Sane y8.1 y8.2.1 y8.2.2.1).bind fun y11 =>
 bif (!y11) then
 some false
 else
 bif (decide (y2.2.2.2 = (1 : Int))) then
 some (decide ((y2.2.1.length : Int) = (0 : Int)))
 else
 bif (!(decide (y2.2.2.2 = (0 : Int)))) then
 (f_laws_sameWorld y1.1 y1.2.1 y1.2.2.1 y2.1 y2.2.1 y2.2.2.1).bind fun y12 =>
 some y12
 else
 (f_impl_WorldOk y2.1 y2.2.1 y2.2.2.1).bind fun y13 =>
 some y13
 else
 bif (decide (y2.2.2.2 = (1 : Int))) then
 some (decide ((y2.2.1.length : Int) = (0 : Int)))
 else
 bif (!(decide (y2.2.2.2 = (0 : Int)))) then
 (f_laws_sameWorld y1.1 y1.2.1 y1.2.2.1 y2.1 y2.2.1 y2.2.2.1).bind fun y14 =>
 some y14
 else
 (f_impl_WorldOk y2.1 y2.2.1 y2.2.2.1).bind fun y15 =>
 some y15
noncomputable def C4 : Con := ⟨[(.B, false, [(.sl R0)])], [(false, [.bool])], [(.sl R0)], [.bool], fun (p : List Int) => f_laws_FnDeeds p⟩
noncomputable abbrev K4 : Cons := [(7, C7), (12, C12), (14, C14), (15, C15), (16, C16), (17, C17), (18, C18), (19, C19), (20, C20), (21, C21), (22, C22)]
noncomputable abbrev X4 : Nat → Ctx := ctxOf tb K4 Le Qe
theorem E4 : ∀ x, funRun fs X4 6 4 C4 x = C4.fn x := fun x => by kernel_rfl
theorem B4 : ConB Tryz.prog 4 C4 := ConB.make FS MIX TY (cons := K4) (L := Le) (ptrs := Qe) ⟨S7, S12, S14, S15, S16, S17, S18, S19, S20, S21, S22, trivial⟩ trivial trivial rfl rfl E4
theorem S4 : ConS Tryz.prog 4 C4 := B4.call rfl
/-- What is left: the plain law. -/
def Pure : Prop := ∀ x : Tup [(.sl R0)], WfT [(.sl R0)] x → C4.fn x = some (true : Bool)
end
end Go.Abs
