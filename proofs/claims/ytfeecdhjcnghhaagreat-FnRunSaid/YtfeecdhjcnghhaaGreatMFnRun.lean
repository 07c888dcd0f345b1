import Derived.Test.YtfeecdhjcnghhaaGreatProg
import Derived.Test.YtfeecdhjcnghhaaGreatAbtE
import Derived.KernelRfl
import Derived.Test.YtfeecdhjcnghhaaGreatMFnRunb
namespace Go.Abs
open Go.Proofs
set_option linter.unusedVariables false
set_option maxRecDepth 100000
noncomputable section
noncomputable def f_laws_sameNode.l2 : Nat → Bool → Int → Int → tyF → tyH → tyS → (List Int) → Int → tyF → tyH → tyS → (List Int) → Option ((Bool) ⊕ (Bool))
 | 0, _, _, _, _, _, _, _, _, _, _, _, _ => none
 | n + 1, p0, p1, p2, p3, p4, p5, p6, p7, p8, p9, p10, p11 =>
 bif (decide (p1 < (p5.length : Int))) then
 bif ((decide ((0 : Int) ≤ p1)) && (decide (p1 < (p5.length : Int)))) then
 bif ((decide ((0 : Int) ≤ p1)) && (decide (p1 < (p10.length : Int)))) then
 bif (!(decide (((p5.getD p1.toNat (0, [])).1) = ((p10.getD p1.toNat (0, [])).1)))) then
 some (.inl false)
 else
 bif ((decide ((0 : Int) ≤ p1)) && (decide (p1 < (p5.length : Int)))) then
 bif ((decide ((0 : Int) ≤ p1)) && (decide (p1 < (p10.length : Int)))) then
 bif (!(decide ((((p5.getD p1.toNat (0, [])).2).length : Int) = (((p10.getD p1.toNat (0, [])).2).length : Int)))) then
 some (.inl false)
 else
 bif (decide (p1 < (p6.length : Int))) then
 bif ((decide ((0 : Int) ≤ p1)) && (decide (p1 < (p6.length : Int)))) then
 bif ((decide ((0 : Int) ≤ p1)) && (decide (p1 < (p11.length : Int)))) then
 bif (!(decide ((p6.getD p1.toNat 0) = (p11.getD p1.toNat 0)))) then
 some (.inl false)
 else
 f_laws_sameNode.l2 n p0 (IntKind.wrap .i64 (p1 + (1 : Int))) p2 p3 p4 p5 p6 p7 p8 p9 p10 p11
 else none
 else none
 else
 f_laws_sameNode.l2 n p0 (IntKind.wrap .i64 (p1 + (1 : Int))) p2 p3 p4 p5 p6 p7 p8 p9 p10 p11
 else none
 else none
 else none
 else none
 else
 some (.inr p0)
noncomputable def f_laws_sameNode.l1 : Nat → Bool → Int → Int → tyF → tyH → tyS → (List Int) → Int → tyF → tyH → tyS → (List Int) → Option ((Bool) ⊕ (Bool × Int × tyF × tyH × tyS × List Int × Int × tyF × tyH × tyS × List Int))
 | 0, _, _, _, _, _, _, _, _, _, _, _, _ => none
 | n + 1, p0, p1, p2, p3, p4, p5, p6, p7, p8, p9, p10, p11 =>
 bif (decide (p1 < (p4.length : Int))) then
 bif ((decide ((0 : Int) ≤ p1)) && (decide (p1 < (p4.length : Int)))) then
 bif ((decide ((0 : Int) ≤ p1)) && (decide (p1 < (p9.length : Int)))) then
 (f_laws_sameHome ((p4.getD p1.toNat ([], 0, [], false, 0, false, 0, [])).1) ((p4.getD p1.toNat ([], 0, [], false, 0, false, 0, [])).2.1) ((p4.getD p1.toNat ([], 0, [], false, 0, false, 0, [])).2.2.1) ((p4.getD p1.toNat ([], 0, [], false, 0, false, 0, [])).2.2.2.1) ((p4.getD p1.toNat ([], 0, [], false, 0, false, 0, [])).2.2.2.2.1) ((p4.getD p1.toNat ([], 0, [], false, 0, false, 0, [])).2.2.2.2.2.1) ((p4.getD p1.toNat ([], 0, [], false, 0, false, 0, [])).2.2.2.2.2.2.1) ((p4.getD p1.toNat ([], 0, [], false, 0, false, 0, [])).2.2.2.2.2.2.2) ((p9.getD p1.toNat ([], 0, [], false, 0, false, 0, [])).1) ((p9.getD p1.toNat ([], 0, [], false, 0, false, 0, [])).2.1) ((p9.getD p1.toNat ([], 0, [], false, 0, false, 0, [])).2.2.1) ((p9.getD p1.toNat ([], 0, [], false, 0, false, 0, [])).2.2.2.1) ((p9.getD p1.toNat ([], 0, [], false, 0, false, 0, [])).2.2.2.2.1) ((p9.getD p1.toNat ([], 0, [], false, 0, false, 0, [])).2.2.2.2.2.1) ((p9.getD p1.toNat ([], 0, [], false, 0, false, 0, [])).2.2.2.2.2.2.1) ((p9.getD p1.toNat ([], 0, [], false, 0, false, 0, [])).2.2.2.2.2.2.2)).bind fun y12 =>
 bif (!y12) then
 some (.inl false)
 else
 f_laws_sameNode.l1 n p0 (IntKind.wrap .i64 (p1 + (1 : Int))) p2 p3 p4 p5 p6 p7 p8 p9 p10 p11
 else none
 else none
 else
 some (.inr (p0, p2, p3, p4, p5, p6, p7, p8, p9, p10, p11))
noncomputable def f_laws_sameNode.l0 : Nat → Bool → Int → Int → tyF → tyH → tyS → (List Int) → Int → tyF → tyH → tyS → (List Int) → Option ((Bool) ⊕ (Bool × Int × tyF × tyH × tyS × List Int × Int × tyF × tyH × tyS × List Int))
 | 0, _, _, _, _, _, _, _, _, _, _, _, _ => none
 | n + 1, p0, p1, p2, p3, p4, p5, p6, p7, p8, p9, p10, p11 =>
 bif (decide (p1 < (p3.length : Int))) then
 bif ((decide ((0 : Int) ≤ p1)) && (decide (p1 < (p3.length : Int)))) then
 bif ((decide ((0 : Int) ≤ p1)) && (decide (p1 < (p8.length : Int)))) then
 bif (!(decide (((p3.getD p1.toNat (0, [], false)).1) = ((p8.getD p1.toNat (0, [], false)).1)))) then
 some (.inl false)
 else
 bif ((decide ((0 : Int) ≤ p1)) && (decide (p1 < (p3.length : Int)))) then
 bif ((decide ((0 : Int) ≤ p1)) && (decide (p1 < (p8.length : Int)))) then
 bif (!(((p3.getD p1.toNat (0, [], false)).2.2) == ((p8.getD p1.toNat (0, [], false)).2.2))) then
 some (.inl false)
 else
 bif ((decide ((0 : Int) ≤ p1)) && (decide (p1 < (p3.length : Int)))) then
 bif ((decide ((0 : Int) ≤ p1)) && (decide (p1 < (p8.length : Int)))) then
 (f_laws_sameInts ((p3.getD p1.toNat (0, [], false)).2.1) ((p8.getD p1.toNat (0, [], false)).2.1)).bind fun y12 =>
 bif (!y12) then
 some (.inl false)
 else
 f_laws_sameNode.l0 n p0 (IntKind.wrap .i64 (p1 + (1 : Int))) p2 p3 p4 p5 p6 p7 p8 p9 p10 p11
 else none
 else none
 else none
 else none
 else none
 else none
 else
 some (.inr (p0, p2, p3, p4, p5, p6, p7, p8, p9, p10, p11))
noncomputable def f_laws_sameNode (x0 : Int) (x1 : tyF) (x2 : tyH) (x3 : tyS) (x4 : List Int) (x5 : Int) (x6 : tyF) (x7 : tyH) (x8 : tyS) (x9 : List Int) : Option (Bool) :=
 bif (!(decide (x0 = x5))) then
 some false
 else
 bif (!(decide ((x1.length : Int) = (x6.length : Int)))) then
 some false
 else
 bif (!(decide ((x2.length : Int) = (x7.length : Int)))) then
 some false
 else
 bif (!(decide ((x3.length : Int) = (x8.length : Int)))) then
 some false
 else
 bif (!(decide ((x4.length : Int) = (x9.length : Int)))) then
 some false
 else
 (f_laws_sameNode.l0 N false 0 x0 x1 x2 x3 x4 x5 x6 x7 x8 x9).bind fun r0 =>
 cs r0 (fun a1 =>
 some a1) (fun b2 =>
 (f_laws_sameNode.l1 N b2.1 0 b2.2.1 b2.2.2.1 b2.2.2.2.1 b2.2.2.2.2.1 b2.2.2.2.2.2.1 b2.2.2.2.2.2.2.1 b2.2.2.2.2.2.2.2.1 b2.2.2.2.2.2.2.2.2.1 b2.2.2.2.2.2.2.2.2.2.1 b2.2.2.2.2.2.2.2.2.2.2).bind fun r3 =>
 cs r3 (fun a4 =>
 some a4) (fun b5 =>
 (f_laws_sameNode.l2 N b5.1 0 b5.2.1 b5.2.2.1 b5.2.2.2.1 b5.2.2.2.2.1 b5.2.2.2.2.2.1 b5.2.2.2.2.2.2.1 b5.2.2.2.2.2.2.2.1 b5.2.2.2.2.2.2.2.2.1 b5.2.2.2.2.2.2.2.2.2.1 b5.2.2.2.2.2.2.2.2.2.2).bind fun r6 =>
 cs r6 (fun a7 =>
 some a7) (fun b8 =>
 some true)))
noncomputable def C43 : Con := ⟨[(.B, true, [iI, (.sl R4), (.sl R5), (.sl R7), (.sl R1)]), (.B, true, [iI, (.sl R4), (.sl R5), (.sl R7), (.sl R1)])], [(false, [.bool])], [iI, (.sl R4), (.sl R5), (.sl R7), (.sl R1), iI, (.sl R4), (.sl R5), (.sl R7), (.sl R1)], [.bool], fun (p : Int × tyF × tyH × tyS × List Int × Int × tyF × tyH × tyS × List Int) => f_laws_sameNode p.1 p.2.1 p.2.2.1 p.2.2.2.1 p.2.2.2.2.1 p.2.2.2.2.2.1 p.2.2.2.2.2.2.1 p.2.2.2.2.2.2.2.1 p.2.2.2.2.2.2.2.2.1 p.2.2.2.2.2.2.2.2.2⟩
noncomputable abbrev f_laws_sameNode.l0.u (n : Nat) := fun (p : Bool × Int × Int × tyF × tyH × tyS × List Int × Int × tyF × tyH × tyS × List Int) => f_laws_sameNode.l0 n p.1 p.2.1 p.2.2.1 p.2.2.2.1 p.2.2.2.2.1 p.2.2.2.2.2.1 p.2.2.2.2.2.2.1 p.2.2.2.2.2.2.2.1 p.2.2.2.2.2.2.2.2.1 p.2.2.2.2.2.2.2.2.2.1 p.2.2.2.2.2.2.2.2.2.2.1 p.2.2.2.2.2.2.2.2.2.2.2
noncomputable def f_laws_sameNode.l0.c : LoopCon := ⟨1000, 6, [2, 3, 4, 5], ⟨[(2, .ptr 1000 0), (3, .ptr 1001 0), (4, .bool false), (5, i0)], [(1000, .box [i0, bN R4, bN R5, bN R7, bN R1]), (1001, .box [i0, bN R4, bN R5, bN R7, bN R1])], 1002⟩, [.bool, iI, iI, (.sl R4), (.sl R5), (.sl R7), (.sl R1), iI, (.sl R4), (.sl R5), (.sl R7), (.sl R1)], [⟨.ret, [4], ⟨[(4, .bool false)], [], 1000⟩, [.bool]⟩, ⟨.exit 0, [2, 3, 4], ⟨[(2, .ptr 1000 0), (3, .ptr 1001 0), (4, .bool false)], [(1000, .box [i0, bN R4, bN R5, bN R7, bN R1]), (1001, .box [i0, bN R4, bN R5, bN R7, bN R1])], 1002⟩, [.bool, iI, (.sl R4), (.sl R5), (.sl R7), (.sl R1), iI, (.sl R4), (.sl R5), (.sl R7), (.sl R1)]⟩], f_laws_sameNode.l0.u N⟩
noncomputable abbrev f_laws_sameNode.l1.u (n : Nat) := fun (p : Bool × Int × Int × tyF × tyH × tyS × List Int × Int × tyF × tyH × tyS × List Int) => f_laws_sameNode.l1 n p.1 p.2.1 p.2.2.1 p.2.2.2.1 p.2.2.2.2.1 p.2.2.2.2.2.1 p.2.2.2.2.2.2.1 p.2.2.2.2.2.2.2.1 p.2.2.2.2.2.2.2.2.1 p.2.2.2.2.2.2.2.2.2.1 p.2.2.2.2.2.2.2.2.2.2.1 p.2.2.2.2.2.2.2.2.2.2.2
noncomputable def f_laws_sameNode.l1.c : LoopCon := ⟨1000, 6, [2, 3, 4, 6], ⟨[(2, .ptr 1000 0), (3, .ptr 1001 0), (4, .bool false), (6, i0)], [(1000, .box [i0, bN R4, bN R5, bN R7, bN R1]), (1001, .box [i0, bN R4, bN R5, bN R7, bN R1])], 1002⟩, [.bool, iI, iI, (.sl R4), (.sl R5), (.sl R7), (.sl R1), iI, (.sl R4), (.sl R5), (.sl R7), (.sl R1)], [⟨.ret, [4], ⟨[(4, .bool false)], [], 1000⟩, [.bool]⟩, ⟨.exit 2, [2, 3, 4], ⟨[(2, .ptr 1000 0), (3, .ptr 1001 0), (4, .bool false)], [(1000, .box [i0, bN R4, bN R5, bN R7, bN R1]), (1001, .box [i0, bN R4, bN R5, bN R7, bN R1])], 1002⟩, [.bool, iI, (.sl R4), (.sl R5), (.sl R7), (.sl R1), iI, (.sl R4), (.sl R5), (.sl R7), (.sl R1)]⟩], f_laws_sameNode.l1.u N⟩
noncomputable abbrev f_laws_sameNode.l2.u (n : Nat) := fun (p : Bool × Int × Int × tyF × tyH × tyS × List Int × Int × tyF × tyH × tyS × List Int) => f_laws_sameNode.l2 n p.1 p.2.1 p.2.2.1 p.2.2.2.1 p.2.2.2.2.1 p.2.2.2.2.2.1 p.2.2.2.2.2.2.1 p.2.2.2.2.2.2.2.1 p.2.2.2.2.2.2.2.2.1 p.2.2.2.2.2.2.2.2.2.1 p.2.2.2.2.2.2.2.2.2.2.1 p.2.2.2.2.2.2.2.2.2.2.2
noncomputable def f_laws_sameNode.l2.c : LoopCon := ⟨1000, 6, [2, 3, 4, 7], ⟨[(2, .ptr 1000 0), (3, .ptr 1001 0), (4, .bool false), (7, i0)], [(1000, .box [i0, bN R4, bN R5, bN R7, bN R1]), (1001, .box [i0, bN R4, bN R5, bN R7, bN R1])], 1002⟩, [.bool, iI, iI, (.sl R4), (.sl R5), (.sl R7), (.sl R1), iI, (.sl R4), (.sl R5), (.sl R7), (.sl R1)], [⟨.ret, [4], ⟨[(4, .bool false)], [], 1000⟩, [.bool]⟩, ⟨.exit 4, [4], ⟨[(4, .bool false)], [], 1000⟩, [.bool]⟩], f_laws_sameNode.l2.u N⟩
noncomputable abbrev K43 : Cons := [(11, C11), (79, C79)]
noncomputable abbrev L43 : List (Nat × Loops) := [(43, [(4, f_laws_sameNode.l0.c), (9, f_laws_sameNode.l1.c), (14, f_laws_sameNode.l2.c)])]
abbrev Q43 : List (Nat × List (Int × Nat) × Nat) := []
noncomputable abbrev X43 : Nat → Ctx := ctxOf tb K43 L43 Q43
theorem f_laws_sameNode.l0.ok : ∀ n p, f_laws_sameNode.l0.u n p = iterD (roundOf fs X43 6 43 4 false f_laws_sameNode.l0.c) n p :=
 iter_of (l := f_laws_sameNode.l0.u) (fun _ => rfl) (fun n p => by kernel_rfl)
theorem f_laws_sameNode.l1.ok : ∀ n p, f_laws_sameNode.l1.u n p = iterD (roundOf fs X43 6 43 9 false f_laws_sameNode.l1.c) n p :=
 iter_of (l := f_laws_sameNode.l1.u) (fun _ => rfl) (fun n p => by kernel_rfl)
theorem f_laws_sameNode.l2.ok : ∀ n p, f_laws_sameNode.l2.u n p = iterD (roundOf fs X43 6 43 14 false f_laws_sameNode.l2.c) n p :=
 iter_of (l := f_laws_sameNode.l2.u) (fun _ => rfl) (fun n p => by kernel_rfl)
theorem E43 : ∀ x, funRun fs X43 6 43 C43 x = C43.fn x := fun x => by kernel_rfl
theorem B43 : ConB Tryz.prog 43 C43 := ConB.make FS MIX TY (cons := K43) (L := L43) (ptrs := Q43) ⟨S11, S79, trivial⟩ trivial ⟨⟨⟨N, fun p => f_laws_sameNode.l0.ok N p⟩, ⟨N, fun p => f_laws_sameNode.l1.ok N p⟩, ⟨N, fun p => f_laws_sameNode.l2.ok N p⟩, trivial⟩, trivial⟩ rfl rfl E43
theorem S43 : ConS Tryz.prog 43 C43 := B43.call rfl
noncomputable def f_laws_sameWorld.l1 : Nat → Bool → Int → Int → tyN → tyP → Int → tyN → tyP → Option ((Bool) ⊕ (Bool))
 | 0, _, _, _, _, _, _, _, _ => none
 | n + 1, p0, p1, p2, p3, p4, p5, p6, p7 =>
 bif (decide (p1 < (p4.length : Int))) then
 bif ((decide ((0 : Int) ≤ p1)) && (decide (p1 < (p4.length : Int)))) then
 bif ((decide ((0 : Int) ≤ p1)) && (decide (p1 < (p7.length : Int)))) then
 bif (!(decide (((p4.getD p1.toNat (0, 0, false, 0, 0, 0, false, [])).1) = ((p7.getD p1.toNat (0, 0, false, 0, 0, 0, false, [])).1)))) then
 some (.inl false)
 else
 bif ((decide ((0 : Int) ≤ p1)) && (decide (p1 < (p4.length : Int)))) then
 bif ((decide ((0 : Int) ≤ p1)) && (decide (p1 < (p7.length : Int)))) then
 bif (!(decide (((p4.getD p1.toNat (0, 0, false, 0, 0, 0, false, [])).2.1) = ((p7.getD p1.toNat (0, 0, false, 0, 0, 0, false, [])).2.1)))) then
 some (.inl false)
 else
 bif ((decide ((0 : Int) ≤ p1)) && (decide (p1 < (p4.length : Int)))) then
 bif ((decide ((0 : Int) ≤ p1)) && (decide (p1 < (p7.length : Int)))) then
 bif (!(decide (((p4.getD p1.toNat (0, 0, false, 0, 0, 0, false, [])).2.2.2.1) = ((p7.getD p1.toNat (0, 0, false, 0, 0, 0, false, [])).2.2.2.1)))) then
 some (.inl false)
 else
 bif ((decide ((0 : Int) ≤ p1)) && (decide (p1 < (p4.length : Int)))) then
 bif ((decide ((0 : Int) ≤ p1)) && (decide (p1 < (p7.length : Int)))) then
 bif (!(decide (((p4.getD p1.toNat (0, 0, false, 0, 0, 0, false, [])).2.2.2.2.1) = ((p7.getD p1.toNat (0, 0, false, 0, 0, 0, false, [])).2.2.2.2.1)))) then
 some (.inl false)
 else
 f_laws_sameWorld.l1 n p0 (IntKind.wrap .i64 (p1 + (1 : Int))) p2 p3 p4 p5 p6 p7
 else none
 else none
 else none
 else none
 else none
 else none
 else none
 else none
 else
 some (.inr p0)
noncomputable def f_laws_sameWorld.l0 : Nat → Bool → Int → Int → tyN → tyP → Int → tyN → tyP → Option ((Bool) ⊕ (Bool × Int × tyN × tyP × Int × tyN × tyP))
 | 0, _, _, _, _, _, _, _, _ => none
 | n + 1, p0, p1, p2, p3, p4, p5, p6, p7 =>
 bif (decide (p1 < (p3.length : Int))) then
 bif ((decide ((0 : Int) ≤ p1)) && (decide (p1 < (p3.length : Int)))) then
 bif ((decide ((0 : Int) ≤ p1)) && (decide (p1 < (p6.length : Int)))) then
 (f_laws_sameNode ((p3.getD p1.toNat (0, [], [], [], [])).1) ((p3.getD p1.toNat (0, [], [], [], [])).2.1) ((p3.getD p1.toNat (0, [], [], [], [])).2.2.1) ((p3.getD p1.toNat (0, [], [], [], [])).2.2.2.1) ((p3.getD p1.toNat (0, [], [], [], [])).2.2.2.2) ((p6.getD p1.toNat (0, [], [], [], [])).1) ((p6.getD p1.toNat (0, [], [], [], [])).2.1) ((p6.getD p1.toNat (0, [], [], [], [])).2.2.1) ((p6.getD p1.toNat (0, [], [], [], [])).2.2.2.1) ((p6.getD p1.toNat (0, [], [], [], [])).2.2.2.2)).bind fun y8 =>
 bif (!y8) then
 some (.inl false)
 else
 f_laws_sameWorld.l0 n p0 (IntKind.wrap .i64 (p1 + (1 : Int))) p2 p3 p4 p5 p6 p7
 else none
 else none
 else
 some (.inr (p0, p2, p3, p4, p5, p6, p7))
noncomputable def f_laws_sameWorld (x0 : Int) (x1 : tyN) (x2 : tyP) (x3 : Int) (x4 : tyN) (x5 : tyP) : Option (Bool) :=
 bif (!(decide (x0 = x3))) then
 some false
 else
 bif (!(decide ((x1.length : Int) = (x4.length : Int)))) then
 some false
 else
 bif (!(decide ((x2.length : Int) = (x5.length : Int)))) then
 some false
 else
 (f_laws_sameWorld.l0 N false 0 x0 x1 x2 x3 x4 x5).bind fun r0 =>
 cs r0 (fun a1 =>
 some a1) (fun b2 =>
 (f_laws_sameWorld.l1 N b2.1 0 b2.2.1 b2.2.2.1 b2.2.2.2.1 b2.2.2.2.2.1 b2.2.2.2.2.2.1 b2.2.2.2.2.2.2).bind fun r3 =>
 cs r3 (fun a4 =>
 some a4) (fun b5 =>
 some true))
noncomputable def C12 : Con := ⟨[(.B, true, [iI, (.sl R8), (.sl R9)]), (.B, true, [iI, (.sl R8), (.sl R9)])], [(false, [.bool])], [iI, (.sl R8), (.sl R9), iI, (.sl R8), (.sl R9)], [.bool], fun (p : Int × tyN × tyP × Int × tyN × tyP) => f_laws_sameWorld p.1 p.2.1 p.2.2.1 p.2.2.2.1 p.2.2.2.2.1 p.2.2.2.2.2⟩
noncomputable abbrev f_laws_sameWorld.l0.u (n : Nat) := fun (p : Bool × Int × Int × tyN × tyP × Int × tyN × tyP) => f_laws_sameWorld.l0 n p.1 p.2.1 p.2.2.1 p.2.2.2.1 p.2.2.2.2.1 p.2.2.2.2.2.1 p.2.2.2.2.2.2.1 p.2.2.2.2.2.2.2
noncomputable def f_laws_sameWorld.l0.c : LoopCon := ⟨1000, 6, [2, 3, 4, 5], ⟨[(2, .ptr 1000 0), (3, .ptr 1001 0), (4, .bool false), (5, i0)], [(1000, .box [i0, bN R8, bN R9]), (1001, .box [i0, bN R8, bN R9])], 1002⟩, [.bool, iI, iI, (.sl R8), (.sl R9), iI, (.sl R8), (.sl R9)], [⟨.ret, [4], ⟨[(4, .bool false)], [], 1000⟩, [.bool]⟩, ⟨.exit 0, [2, 3, 4], ⟨[(2, .ptr 1000 0), (3, .ptr 1001 0), (4, .bool false)], [(1000, .box [i0, bN R8, bN R9]), (1001, .box [i0, bN R8, bN R9])], 1002⟩, [.bool, iI, (.sl R8), (.sl R9), iI, (.sl R8), (.sl R9)]⟩], f_laws_sameWorld.l0.u N⟩
noncomputable abbrev f_laws_sameWorld.l1.u (n : Nat) := fun (p : Bool × Int × Int × tyN × tyP × Int × tyN × tyP) => f_laws_sameWorld.l1 n p.1 p.2.1 p.2.2.1 p.2.2.2.1 p.2.2.2.2.1 p.2.2.2.2.2.1 p.2.2.2.2.2.2.1 p.2.2.2.2.2.2.2
noncomputable def f_laws_sameWorld.l1.c : LoopCon := ⟨1000, 6, [2, 3, 4, 6], ⟨[(2, .ptr 1000 0), (3, .ptr 1001 0), (4, .bool false), (6, i0)], [(1000, .box [i0, bN R8, bN R9]), (1001, .box [i0, bN R8, bN R9])], 1002⟩, [.bool, iI, iI, (.sl R8), (.sl R9), iI, (.sl R8), (.sl R9)], [⟨.ret, [4], ⟨[(4, .bool false)], [], 1000⟩, [.bool]⟩, ⟨.exit 2, [4], ⟨[(4, .bool false)], [], 1000⟩, [.bool]⟩], f_laws_sameWorld.l1.u N⟩
noncomputable abbrev K12 : Cons := [(43, C43)]
noncomputable abbrev L12 : List (Nat × Loops) := [(12, [(4, f_laws_sameWorld.l0.c), (9, f_laws_sameWorld.l1.c)])]
abbrev Q12 : List (Nat × List (Int × Nat) × Nat) := []
noncomputable abbrev X12 : Nat → Ctx := ctxOf tb K12 L12 Q12
theorem f_laws_sameWorld.l0.ok : ∀ n p, f_laws_sameWorld.l0.u n p = iterD (roundOf fs X12 6 12 4 false f_laws_sameWorld.l0.c) n p :=
 iter_of (l := f_laws_sameWorld.l0.u) (fun _ => rfl) (fun n p => by kernel_rfl)
theorem f_laws_sameWorld.l1.ok : ∀ n p, f_laws_sameWorld.l1.u n p = iterD (roundOf fs X12 6 12 9 false f_laws_sameWorld.l1.c) n p :=
 iter_of (l := f_laws_sameWorld.l1.u) (fun _ => rfl) (fun n p => by kernel_rfl)
theorem E12 : ∀ x, funRun fs X12 6 12 C12 x = C12.fn x := fun x => by kernel_rfl
theorem B12 : ConB Tryz.prog 12 C12 := ConB.make FS MIX TY (cons := K12) (L := L12) (ptrs := Q12) ⟨S43, trivial⟩ trivial ⟨⟨⟨N, fun p => f_laws_sameWorld.l0.ok N p⟩, ⟨N, fun p => f_laws_sameWorld.l1.ok N p⟩, trivial⟩, trivial⟩ rfl rfl E12
theorem S12 : ConS Tryz.prog 12 C12 := B12.call rfl
noncomputable def f_laws_at (x0 : List Int) (x1 : Int) : Option (Int) :=
 bif (decide (x1 < (x0.length : Int))) then
 bif ((decide ((0 : Int) ≤ x1)) && (decide (x1 < (x0.length : Int)))) then
 some (IntKind.wrap .i64 ((x0.getD x1.toNat 0)))
 else none
 else
 some (Int.tmod (IntKind.wrap .i64 ((IntKind.wrap .i64 (x1 * (7 : Int))) + (x0.length : Int))) (256 : Int))
noncomputable def C13 : Con := ⟨[(.B, false, [(.sl R0)]), (.B, false, [iI])], [(false, [iI])], [(.sl R0), iI], [iI], fun (p : List Int × Int) => f_laws_at p.1 p.2⟩
noncomputable abbrev K13 : Cons := []
noncomputable abbrev L13 : List (Nat × Loops) := []
abbrev Q13 : List (Nat × List (Int × Nat) × Nat) := []
noncomputable abbrev X13 : Nat → Ctx := ctxOf tb K13 L13 Q13
theorem E13 : ∀ x, funRun fs X13 6 13 C13 x = C13.fn x := fun x => by kernel_rfl
theorem B13 : ConB Tryz.prog 13 C13 := ConB.make FS MIX TY (cons := K13) (L := L13) (ptrs := Q13) trivial trivial trivial rfl rfl E13
theorem S13 : ConS Tryz.prog 13 C13 := B13.call rfl
noncomputable def f_laws_FnRun (x0 : List Int) : Option (Bool) :=
 (f_laws_big x0).bind fun y0 =>
 bif y0 then
 some true
 else
 (f_spec_DrawWorldRun x0).bind fun y1 =>
 (f_impl_WorldRun y1.1 y1.2.1 y1.2.2.1 y1.2.2.2).bind fun y2 =>
 (f_spec_WorldRun y1.1 y1.2.1 y1.2.2.1 y1.2.2.2).bind fun y3 =>
 (f_laws_sameInts y2.2.2.2 y3.2.2.2).bind fun y4 =>
 bif (!y4) then
 some false
 else
 bif (decide ((y2.2.2.2.length : Int) = (0 : Int))) then
 (f_laws_sameWorld y2.1 y2.2.1 y2.2.2.1 y1.1 y1.2.1 y1.2.2.1).bind fun y5 =>
 some y5
 else
 (f_laws_at x0 1).bind fun y6 =>
 bif (decide ((IntKind.wrap .i64 ((y1.2.2.2.length : Int) + (1 : Int))) = (0 : Int))) then none else
 bif ((decide ((0 : Int) ≤ (Int.tmod y6 (IntKind.wrap .i64 ((y1.2.2.2.length : Int) + (1 : Int)))))) && (decide ((Int.tmod y6 (IntKind.wrap .i64 ((y1.2.2.2.length : Int) + (1 : Int)))) ≤ (y1.2.2.2.length : Int)))) then
 (f_impl_WorldRun y1.1 y1.2.1 y1.2.2.1 ((y1.2.2.2.drop 0).take (Int.tmod y6 (IntKind.wrap .i64 ((y1.2.2.2.length : Int) + (1 : Int)))).toNat)).bind fun y7 =>
 bif ((decide ((0 : Int) ≤ (Int.tmod y6 (IntKind.wrap .i64 ((y1.2.2.2.length : Int) + (1 : Int)))))) && (decide ((Int.tmod y6 (IntKind.wrap .i64 ((y1.2.2.2.length : Int) + (1 : Int)))) ≤ (y1.2.2.2.length : Int)))) then
 (f_impl_WorldRun y7.1 y7.2.1 y7.2.2.1 ((y1.2.2.2.drop (Int.tmod y6 (IntKind.wrap .i64 ((y1.2.2.2.length : Int) + (1 : Int)))).toNat).take ((y1.2.2.2.length : Int) - (Int.tmod y6 (IntKind.wrap .i64 ((y1.2.2.2.length : Int) + (1 : Int))))).toNat)).bind fun y8 =>
 bif (decide ((IntKind.wrap .i64 ((y7.2.2.2.length : Int) + (y8.2.2.2.length : Int))) = (y2.2.2.2.length : Int))) then
 (f_laws_sameWorld y8.1 y8.2.1 y8.2.2.1 y2.1 y2.2.1 y2.2.2.1).bind fun y9 =>
 some y9
 else
 some false
 else none
 else none
noncomputable def C3 : Con := ⟨[(.B, false, [(.sl R0)])], [(false, [.bool])], [(.sl R0)], [.bool], fun (p : List Int) => f_laws_FnRun p⟩
noncomputable abbrev K3 : Cons := [(7, C7), (8, C8), (9, C9), (10, C10), (11, C11), (12, C12), (13, C13)]
noncomputable abbrev L3 : List (Nat × Loops) := []
abbrev Q3 : List (Nat × List (Int × Nat) × Nat) := []
noncomputable abbrev X3 : Nat → Ctx := ctxOf tb K3 L3 Q3
theorem E3 : ∀ x, funRun fs X3 6 3 C3 x = C3.fn x := fun x => by kernel_rfl
theorem B3 : ConB Tryz.prog 3 C3 := ConB.make FS MIX TY (cons := K3) (L := L3) (ptrs := Q3) ⟨S7, S8, S9, S10, S11, S12, S13, trivial⟩ trivial trivial rfl rfl E3
theorem S3 : ConS Tryz.prog 3 C3 := B3.call rfl
/-- What is left: the plain law. -/
def Pure : Prop := ∀ x : Tup [(.sl R0)], WfT [(.sl R0)] x → C3.fn x = some (true : Bool)
end
end Go.Abs
