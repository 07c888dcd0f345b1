/-
  No cell of these rows narrows 'for every input' (looked for: loops, veiled, ifaces, maps, wideKeys, modest, calm, conditions, laid).
  DERIVED. THE GIVEN ROWS OF THIS SEAT. 4 by the template 'for every input the law returns true; each argument reads behind the call as it read before'; 0 by the template 'total and deterministic' (their statements: YtdhjooflkiagaaaTotals.lean).
  GIVEN WITH THE SEED: the statements are not yours to turn. If you find one false, say at which input.
  Laid BY PROGRAM, IN A SANDBOX (cutbox-rows.mjs): the forced cells as the released guide's own fill.sh prints them over the translation 796e56229861f20c… (all of the seat's roots in one cut). By AI agents, Wed Nov 11 2026. No macro, syntax, notation, axiom, sorry.
-/
import Derived.Test.YtdhjooflkiagaaaChecked
import GoSem.Claim
import GoSem.ClaimJoined
import GoSem.ClaimMapViews
import Derived.JoinedTies
import Derived.KernelRfl
namespace Go.Proofs.Ytdhjooflkiagaaa
/- THE CELL 'sum', in the pinned program and in every row, IS THE sha256 OF THE DUMP (.gsa) THAT YtdhjooflkiagaaaProg.lean LOADS. Nothing in Lean hashes anything: it is a label: what it is worth is what the hold of that sum in a sandbox is worth. -/
noncomputable def Try.pinned : Pinned := { name := "ytdhjooflkiagaaa", sum := "796e56229861f20cf9e2c7d0e3673e4741149691ffbef15fef6455d4322dd019", checked := Try.checked }
namespace Rows
def none {H : Type} : Left H := { results := [], args := [] }

/-- 'laws.FnInOrder': WHATEVER THE INPUT: true; the input reads as it did. -/
def fnInOrderSpec : ChangeSpec := { name := "fnInOrder", fn := fun _ => fun
  | [d] => { results := [.lit (.bool true)], args := [d] }
  | _ => none }
def fnInOrderRow : OpenClaim := { program := "ytdhjooflkiagaaa", sum := "796e56229861f20cf9e2c7d0e3673e4741149691ffbef15fef6455d4322dd019", func := "loop.example/g00281/laws.FnInOrder", spec := "fnInOrder", unfollowed := true, recurses := true, apart := false }
def FnInOrderSaid : Prop := fnInOrderRow.holds Try.pinned (OpenSpec.ofChange fnInOrderSpec)

/-- ITS FALSE NEIGHBOUR: 'it returns false'. Refute it at one input. -/
def fnInOrderWrong : ChangeSpec := { name := "fnInOrder", fn := fun _ => fun
  | [d] => { results := [.lit (.bool false)], args := [d] }
  | _ => none }
def FnInOrderWrongFalsely : Prop := fnInOrderRow.holds Try.pinned (OpenSpec.ofChange fnInOrderWrong)

/-- 'laws.FnHomeGives': WHATEVER THE INPUT: true; the input reads as it did. -/
def fnHomeGivesSpec : ChangeSpec := { name := "fnHomeGives", fn := fun _ => fun
  | [d] => { results := [.lit (.bool true)], args := [d] }
  | _ => none }
def fnHomeGivesRow : OpenClaim := { program := "ytdhjooflkiagaaa", sum := "796e56229861f20cf9e2c7d0e3673e4741149691ffbef15fef6455d4322dd019", func := "loop.example/g00281/laws.FnHomeGives", spec := "fnHomeGives", unfollowed := true, recurses := true, apart := false }
def FnHomeGivesSaid : Prop := fnHomeGivesRow.holds Try.pinned (OpenSpec.ofChange fnHomeGivesSpec)

/-- ITS FALSE NEIGHBOUR: 'it returns false'. Refute it at one input. -/
def fnHomeGivesWrong : ChangeSpec := { name := "fnHomeGives", fn := fun _ => fun
  | [d] => { results := [.lit (.bool false)], args := [d] }
  | _ => none }
def FnHomeGivesWrongFalsely : Prop := fnHomeGivesRow.holds Try.pinned (OpenSpec.ofChange fnHomeGivesWrong)

/-- 'laws.FnExactHomeHear': WHATEVER THE INPUT: true; the input reads as it did. -/
def fnExactHomeHearSpec : ChangeSpec := { name := "fnExactHomeHear", fn := fun _ => fun
  | [d1, d2, d3, d4, d5] => { results := [.lit (.bool true)], args := [d1, d2, d3, d4, d5] }
  | _ => none }
def fnExactHomeHearRow : OpenClaim := { program := "ytdhjooflkiagaaa", sum := "796e56229861f20cf9e2c7d0e3673e4741149691ffbef15fef6455d4322dd019", func := "loop.example/g00281/laws.FnExactHomeHear", spec := "fnExactHomeHear", unfollowed := true, recurses := true, apart := false }
def FnExactHomeHearSaid : Prop := fnExactHomeHearRow.holds Try.pinned (OpenSpec.ofChange fnExactHomeHearSpec)

/-- ITS FALSE NEIGHBOUR: 'it returns false'. Refute it at one input. -/
def fnExactHomeHearWrong : ChangeSpec := { name := "fnExactHomeHear", fn := fun _ => fun
  | [d1, d2, d3, d4, d5] => { results := [.lit (.bool false)], args := [d1, d2, d3, d4, d5] }
  | _ => none }
def FnExactHomeHearWrongFalsely : Prop := fnExactHomeHearRow.holds Try.pinned (OpenSpec.ofChange fnExactHomeHearWrong)

/-- 'laws.FnExactWorldNew': WHATEVER THE INPUT: true; the input reads as it did. -/
def fnExactWorldNewSpec : ChangeSpec := { name := "fnExactWorldNew", fn := fun _ => fun
  | [d] => { results := [.lit (.bool true)], args := [d] }
  | _ => none }
def fnExactWorldNewRow : OpenClaim := { program := "ytdhjooflkiagaaa", sum := "796e56229861f20cf9e2c7d0e3673e4741149691ffbef15fef6455d4322dd019", func := "loop.example/g00281/laws.FnExactWorldNew", spec := "fnExactWorldNew", apart := false }
def FnExactWorldNewSaid : Prop := fnExactWorldNewRow.holds Try.pinned (OpenSpec.ofChange fnExactWorldNewSpec)

/-- ITS FALSE NEIGHBOUR: 'it returns false'. Refute it at one input. -/
def fnExactWorldNewWrong : ChangeSpec := { name := "fnExactWorldNew", fn := fun _ => fun
  | [d] => { results := [.lit (.bool false)], args := [d] }
  | _ => none }
def FnExactWorldNewWrongFalsely : Prop := fnExactWorldNewRow.holds Try.pinned (OpenSpec.ofChange fnExactWorldNewWrong)

/- THE SECOND FORM. 'bulk': how many values and letters a reading holds, each counted each time it is reached (what is shared counts as often as it is met; a slice's spare places count too). A statement '..UptoSaid' is the law's where the arguments, and the package variables that the reading takes, are together of bulk at most 1048576: NARROWER than '..Said'. Prove '..Said' where nothing that the law and all that it calls make is longer than what came in: it says more and counts as full. Else prove '..UptoSaid'. A law counts once. -/
mutual
def uptoBulk {H : Type} : DataW H → Nat
  | .lit (.string bytes) => bytes.length + 1
  | .lit _ => 1
  | .nil => 1
  | .ptr d => uptoBulk d + 1
  | .slice elems spare => uptoBulkAll elems + uptoBulkAll spare + 1
  | .agg parts => uptoBulkAll parts + 1
  | .iface _ d => uptoBulk d + 1
  | .map entries => uptoBulkEntries entries + 1
  | .held _ => 1
def uptoBulkAll {H : Type} : List (DataW H) → Nat
  | [] => 0
  | d :: r => uptoBulk d + uptoBulkAll r
def uptoBulkEntries {H : Type} : List (Lit × DataW H) → Nat
  | [] => 0
  | x :: r => uptoBulkEntry x + uptoBulkEntries r
def uptoBulkEntry {H : Type} : Lit × DataW H → Nat
  | (.string bytes, d) => bytes.length + uptoBulk d + 1
  | (_, d) => uptoBulk d + 1
 end
def uptoSmall : (H : Type) → List (DataW H) → Bool := fun _ ds => decide (uptoBulkAll ds ≤ 1048576)
def OpenSpec.upto (s : _root_.Go.ChangeSpec) : _root_.Go.OpenSpec := { _root_.Go.OpenSpec.ofChange s with cond := some uptoSmall }

/-- 'laws.FnInOrder', WHERE WHAT IT READS IS OF BULK AT MOST 1048576: true; the input reads as it did. -/
def fnInOrderUptoRow : OpenClaim := { program := "ytdhjooflkiagaaa", sum := "796e56229861f20cf9e2c7d0e3673e4741149691ffbef15fef6455d4322dd019", func := "loop.example/g00281/laws.FnInOrder", spec := "fnInOrder", unfollowed := true, recurses := true, apart := false, narrowed := true }
def FnInOrderUptoSaid : Prop := fnInOrderUptoRow.holds Try.pinned (OpenSpec.upto fnInOrderSpec)

/-- 'laws.FnHomeGives', WHERE WHAT IT READS IS OF BULK AT MOST 1048576: true; the input reads as it did. -/
def fnHomeGivesUptoRow : OpenClaim := { program := "ytdhjooflkiagaaa", sum := "796e56229861f20cf9e2c7d0e3673e4741149691ffbef15fef6455d4322dd019", func := "loop.example/g00281/laws.FnHomeGives", spec := "fnHomeGives", unfollowed := true, recurses := true, apart := false, narrowed := true }
def FnHomeGivesUptoSaid : Prop := fnHomeGivesUptoRow.holds Try.pinned (OpenSpec.upto fnHomeGivesSpec)

/-- 'laws.FnExactHomeHear', WHERE WHAT IT READS IS OF BULK AT MOST 1048576: true; the input reads as it did. -/
def fnExactHomeHearUptoRow : OpenClaim := { program := "ytdhjooflkiagaaa", sum := "796e56229861f20cf9e2c7d0e3673e4741149691ffbef15fef6455d4322dd019", func := "loop.example/g00281/laws.FnExactHomeHear", spec := "fnExactHomeHear", unfollowed := true, recurses := true, apart := false, narrowed := true }
def FnExactHomeHearUptoSaid : Prop := fnExactHomeHearUptoRow.holds Try.pinned (OpenSpec.upto fnExactHomeHearSpec)

/-- 'laws.FnExactWorldNew', WHERE WHAT IT READS IS OF BULK AT MOST 1048576: true; the input reads as it did. -/
def fnExactWorldNewUptoRow : OpenClaim := { program := "ytdhjooflkiagaaa", sum := "796e56229861f20cf9e2c7d0e3673e4741149691ffbef15fef6455d4322dd019", func := "loop.example/g00281/laws.FnExactWorldNew", spec := "fnExactWorldNew", apart := false, narrowed := true }
def FnExactWorldNewUptoSaid : Prop := fnExactWorldNewUptoRow.holds Try.pinned (OpenSpec.upto fnExactWorldNewSpec)

end Rows
end Go.Proofs.Ytdhjooflkiagaaa
