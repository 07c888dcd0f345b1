/-
  No cell of these rows narrows 'for every input' (looked for: loops, veiled, ifaces, maps, wideKeys, modest, calm, conditions, laid).
  DERIVED. THE GIVEN ROWS OF THIS SEAT. 12 by the template 'for every input the law returns true; each argument reads behind the call as it read before'; 0 by the template 'total and deterministic' (their statements: YtimpkielhcgfdaaTotals.lean).
  GIVEN WITH THE SEED: the statements are not yours to turn. If you find one false, say at which input.
  Laid BY PROGRAM, IN A SANDBOX (cutbox-rows.mjs): the forced cells as the released guide's own fill.sh prints them over the translation 5f3c42785e45d174… (all of the seat's roots in one cut). By AI agents, Wed Nov 11 2026. No macro, syntax, notation, axiom, sorry.
-/
import Derived.Test.YtimpkielhcgfdaaChecked
import GoSem.Claim
import GoSem.ClaimJoined
import GoSem.ClaimMapViews
import Derived.JoinedTies
import Derived.KernelRfl
namespace Go.Proofs.Ytimpkielhcgfdaa
/- THE CELL 'sum', in the pinned program and in every row, IS THE sha256 OF THE DUMP (.gsa) THAT YtimpkielhcgfdaaProg.lean LOADS. Nothing in Lean hashes anything: it is a label: what it is worth is what the hold of that sum in a sandbox is worth. -/
noncomputable def Try.pinned : Pinned := { name := "ytimpkielhcgfdaa", sum := "5f3c42785e45d1740049fbb036ba2df3538ed7f1e848c37b316d502484154c2f", checked := Try.checked }
namespace Rows
def none {H : Type} : Left H := { results := [], args := [] }

/-- 'laws.FnExactFlatRun': WHATEVER THE INPUT: true; the input reads as it did. -/
def fnExactFlatRunSpec : ChangeSpec := { name := "fnExactFlatRun", fn := fun _ => fun
  | [d1, d2, d3] => { results := [.lit (.bool true)], args := [d1, d2, d3] }
  | _ => none }
def fnExactFlatRunRow : OpenClaim := { program := "ytimpkielhcgfdaa", sum := "5f3c42785e45d1740049fbb036ba2df3538ed7f1e848c37b316d502484154c2f", func := "loop.example/g00281/laws.FnExactFlatRun", spec := "fnExactFlatRun", unfollowed := true, recurses := true, apart := false }
def FnExactFlatRunSaid : Prop := fnExactFlatRunRow.holds Try.pinned (OpenSpec.ofChange fnExactFlatRunSpec)

/-- ITS FALSE NEIGHBOUR: 'it returns false'. Refute it at one input. -/
def fnExactFlatRunWrong : ChangeSpec := { name := "fnExactFlatRun", fn := fun _ => fun
  | [d1, d2, d3] => { results := [.lit (.bool false)], args := [d1, d2, d3] }
  | _ => none }
def FnExactFlatRunWrongFalsely : Prop := fnExactFlatRunRow.holds Try.pinned (OpenSpec.ofChange fnExactFlatRunWrong)

/-- 'laws.FnQueueEnds': WHATEVER THE INPUT: true; the input reads as it did. -/
def fnQueueEndsSpec : ChangeSpec := { name := "fnQueueEnds", fn := fun _ => fun
  | [d] => { results := [.lit (.bool true)], args := [d] }
  | _ => none }
def fnQueueEndsRow : OpenClaim := { program := "ytimpkielhcgfdaa", sum := "5f3c42785e45d1740049fbb036ba2df3538ed7f1e848c37b316d502484154c2f", func := "loop.example/g00281/laws.FnQueueEnds", spec := "fnQueueEnds", unfollowed := true, recurses := true, apart := false }
def FnQueueEndsSaid : Prop := fnQueueEndsRow.holds Try.pinned (OpenSpec.ofChange fnQueueEndsSpec)

/-- ITS FALSE NEIGHBOUR: 'it returns false'. Refute it at one input. -/
def fnQueueEndsWrong : ChangeSpec := { name := "fnQueueEnds", fn := fun _ => fun
  | [d] => { results := [.lit (.bool false)], args := [d] }
  | _ => none }
def FnQueueEndsWrongFalsely : Prop := fnQueueEndsRow.holds Try.pinned (OpenSpec.ofChange fnQueueEndsWrong)

/-- 'laws.FnMsgCut': WHATEVER THE INPUT: true; the input reads as it did. -/
def fnMsgCutSpec : ChangeSpec := { name := "fnMsgCut", fn := fun _ => fun
  | [d] => { results := [.lit (.bool true)], args := [d] }
  | _ => none }
def fnMsgCutRow : OpenClaim := { program := "ytimpkielhcgfdaa", sum := "5f3c42785e45d1740049fbb036ba2df3538ed7f1e848c37b316d502484154c2f", func := "loop.example/g00281/laws.FnMsgCut", spec := "fnMsgCut", unfollowed := true, recurses := true, apart := false }
def FnMsgCutSaid : Prop := fnMsgCutRow.holds Try.pinned (OpenSpec.ofChange fnMsgCutSpec)

/-- ITS FALSE NEIGHBOUR: 'it returns false'. Refute it at one input. -/
def fnMsgCutWrong : ChangeSpec := { name := "fnMsgCut", fn := fun _ => fun
  | [d] => { results := [.lit (.bool false)], args := [d] }
  | _ => none }
def FnMsgCutWrongFalsely : Prop := fnMsgCutRow.holds Try.pinned (OpenSpec.ofChange fnMsgCutWrong)

/-- 'laws.FnFrameHears': WHATEVER THE INPUT: true; the input reads as it did. -/
def fnFrameHearsSpec : ChangeSpec := { name := "fnFrameHears", fn := fun _ => fun
  | [d] => { results := [.lit (.bool true)], args := [d] }
  | _ => none }
def fnFrameHearsRow : OpenClaim := { program := "ytimpkielhcgfdaa", sum := "5f3c42785e45d1740049fbb036ba2df3538ed7f1e848c37b316d502484154c2f", func := "loop.example/g00281/laws.FnFrameHears", spec := "fnFrameHears", unfollowed := true, recurses := true, apart := false }
def FnFrameHearsSaid : Prop := fnFrameHearsRow.holds Try.pinned (OpenSpec.ofChange fnFrameHearsSpec)

/-- ITS FALSE NEIGHBOUR: 'it returns false'. Refute it at one input. -/
def fnFrameHearsWrong : ChangeSpec := { name := "fnFrameHears", fn := fun _ => fun
  | [d] => { results := [.lit (.bool false)], args := [d] }
  | _ => none }
def FnFrameHearsWrongFalsely : Prop := fnFrameHearsRow.holds Try.pinned (OpenSpec.ofChange fnFrameHearsWrong)

/-- 'laws.FnBlockPages': WHATEVER THE INPUT: true; the input reads as it did. -/
def fnBlockPagesSpec : ChangeSpec := { name := "fnBlockPages", fn := fun _ => fun
  | [d] => { results := [.lit (.bool true)], args := [d] }
  | _ => none }
def fnBlockPagesRow : OpenClaim := { program := "ytimpkielhcgfdaa", sum := "5f3c42785e45d1740049fbb036ba2df3538ed7f1e848c37b316d502484154c2f", func := "loop.example/g00281/laws.FnBlockPages", spec := "fnBlockPages", apart := false }
def FnBlockPagesSaid : Prop := fnBlockPagesRow.holds Try.pinned (OpenSpec.ofChange fnBlockPagesSpec)

/-- ITS FALSE NEIGHBOUR: 'it returns false'. Refute it at one input. -/
def fnBlockPagesWrong : ChangeSpec := { name := "fnBlockPages", fn := fun _ => fun
  | [d] => { results := [.lit (.bool false)], args := [d] }
  | _ => none }
def FnBlockPagesWrongFalsely : Prop := fnBlockPagesRow.holds Try.pinned (OpenSpec.ofChange fnBlockPagesWrong)

/-- 'laws.FnMsgs': WHATEVER THE INPUT: true; the input reads as it did. -/
def fnMsgsSpec : ChangeSpec := { name := "fnMsgs", fn := fun _ => fun
  | [d] => { results := [.lit (.bool true)], args := [d] }
  | _ => none }
def fnMsgsRow : OpenClaim := { program := "ytimpkielhcgfdaa", sum := "5f3c42785e45d1740049fbb036ba2df3538ed7f1e848c37b316d502484154c2f", func := "loop.example/g00281/laws.FnMsgs", spec := "fnMsgs", unfollowed := true, recurses := true, apart := false }
def FnMsgsSaid : Prop := fnMsgsRow.holds Try.pinned (OpenSpec.ofChange fnMsgsSpec)

/-- ITS FALSE NEIGHBOUR: 'it returns false'. Refute it at one input. -/
def fnMsgsWrong : ChangeSpec := { name := "fnMsgs", fn := fun _ => fun
  | [d] => { results := [.lit (.bool false)], args := [d] }
  | _ => none }
def FnMsgsWrongFalsely : Prop := fnMsgsRow.holds Try.pinned (OpenSpec.ofChange fnMsgsWrong)

/-- 'laws.FnBlocks': WHATEVER THE INPUT: true; the input reads as it did. -/
def fnBlocksSpec : ChangeSpec := { name := "fnBlocks", fn := fun _ => fun
  | [d] => { results := [.lit (.bool true)], args := [d] }
  | _ => none }
def fnBlocksRow : OpenClaim := { program := "ytimpkielhcgfdaa", sum := "5f3c42785e45d1740049fbb036ba2df3538ed7f1e848c37b316d502484154c2f", func := "loop.example/g00281/laws.FnBlocks", spec := "fnBlocks", apart := false }
def FnBlocksSaid : Prop := fnBlocksRow.holds Try.pinned (OpenSpec.ofChange fnBlocksSpec)

/-- ITS FALSE NEIGHBOUR: 'it returns false'. Refute it at one input. -/
def fnBlocksWrong : ChangeSpec := { name := "fnBlocks", fn := fun _ => fun
  | [d] => { results := [.lit (.bool false)], args := [d] }
  | _ => none }
def FnBlocksWrongFalsely : Prop := fnBlocksRow.holds Try.pinned (OpenSpec.ofChange fnBlocksWrong)

/-- 'laws.FnLines': WHATEVER THE INPUT: true; the input reads as it did. -/
def fnLinesSpec : ChangeSpec := { name := "fnLines", fn := fun _ => fun
  | [d] => { results := [.lit (.bool true)], args := [d] }
  | _ => none }
def fnLinesRow : OpenClaim := { program := "ytimpkielhcgfdaa", sum := "5f3c42785e45d1740049fbb036ba2df3538ed7f1e848c37b316d502484154c2f", func := "loop.example/g00281/laws.FnLines", spec := "fnLines", unfollowed := true, recurses := true, apart := false }
def FnLinesSaid : Prop := fnLinesRow.holds Try.pinned (OpenSpec.ofChange fnLinesSpec)

/-- ITS FALSE NEIGHBOUR: 'it returns false'. Refute it at one input. -/
def fnLinesWrong : ChangeSpec := { name := "fnLines", fn := fun _ => fun
  | [d] => { results := [.lit (.bool false)], args := [d] }
  | _ => none }
def FnLinesWrongFalsely : Prop := fnLinesRow.holds Try.pinned (OpenSpec.ofChange fnLinesWrong)

/-- 'laws.FnExactAcked': WHATEVER THE INPUT: true; the input reads as it did. -/
def fnExactAckedSpec : ChangeSpec := { name := "fnExactAcked", fn := fun _ => fun
  | [d1, d2] => { results := [.lit (.bool true)], args := [d1, d2] }
  | _ => none }
def fnExactAckedRow : OpenClaim := { program := "ytimpkielhcgfdaa", sum := "5f3c42785e45d1740049fbb036ba2df3538ed7f1e848c37b316d502484154c2f", func := "loop.example/g00281/laws.FnExactAcked", spec := "fnExactAcked", unfollowed := true, recurses := true, apart := false }
def FnExactAckedSaid : Prop := fnExactAckedRow.holds Try.pinned (OpenSpec.ofChange fnExactAckedSpec)

/-- ITS FALSE NEIGHBOUR: 'it returns false'. Refute it at one input. -/
def fnExactAckedWrong : ChangeSpec := { name := "fnExactAcked", fn := fun _ => fun
  | [d1, d2] => { results := [.lit (.bool false)], args := [d1, d2] }
  | _ => none }
def FnExactAckedWrongFalsely : Prop := fnExactAckedRow.holds Try.pinned (OpenSpec.ofChange fnExactAckedWrong)

/-- 'laws.FnExactQueue': WHATEVER THE INPUT: true; the input reads as it did. -/
def fnExactQueueSpec : ChangeSpec := { name := "fnExactQueue", fn := fun _ => fun
  | [d1, d2] => { results := [.lit (.bool true)], args := [d1, d2] }
  | _ => none }
def fnExactQueueRow : OpenClaim := { program := "ytimpkielhcgfdaa", sum := "5f3c42785e45d1740049fbb036ba2df3538ed7f1e848c37b316d502484154c2f", func := "loop.example/g00281/laws.FnExactQueue", spec := "fnExactQueue", unfollowed := true, recurses := true, apart := false }
def FnExactQueueSaid : Prop := fnExactQueueRow.holds Try.pinned (OpenSpec.ofChange fnExactQueueSpec)

/-- ITS FALSE NEIGHBOUR: 'it returns false'. Refute it at one input. -/
def fnExactQueueWrong : ChangeSpec := { name := "fnExactQueue", fn := fun _ => fun
  | [d1, d2] => { results := [.lit (.bool false)], args := [d1, d2] }
  | _ => none }
def FnExactQueueWrongFalsely : Prop := fnExactQueueRow.holds Try.pinned (OpenSpec.ofChange fnExactQueueWrong)

/-- 'laws.FnExactNodeNew': WHATEVER THE INPUT: true; the input reads as it did. -/
def fnExactNodeNewSpec : ChangeSpec := { name := "fnExactNodeNew", fn := fun _ => fun
  | [d1, d2] => { results := [.lit (.bool true)], args := [d1, d2] }
  | _ => none }
def fnExactNodeNewRow : OpenClaim := { program := "ytimpkielhcgfdaa", sum := "5f3c42785e45d1740049fbb036ba2df3538ed7f1e848c37b316d502484154c2f", func := "loop.example/g00281/laws.FnExactNodeNew", spec := "fnExactNodeNew", apart := false }
def FnExactNodeNewSaid : Prop := fnExactNodeNewRow.holds Try.pinned (OpenSpec.ofChange fnExactNodeNewSpec)

/-- ITS FALSE NEIGHBOUR: 'it returns false'. Refute it at one input. -/
def fnExactNodeNewWrong : ChangeSpec := { name := "fnExactNodeNew", fn := fun _ => fun
  | [d1, d2] => { results := [.lit (.bool false)], args := [d1, d2] }
  | _ => none }
def FnExactNodeNewWrongFalsely : Prop := fnExactNodeNewRow.holds Try.pinned (OpenSpec.ofChange fnExactNodeNewWrong)

/-- 'laws.FnHome': WHATEVER THE INPUT: true; the input reads as it did. -/
def fnHomeSpec : ChangeSpec := { name := "fnHome", fn := fun _ => fun
  | [d] => { results := [.lit (.bool true)], args := [d] }
  | _ => none }
def fnHomeRow : OpenClaim := { program := "ytimpkielhcgfdaa", sum := "5f3c42785e45d1740049fbb036ba2df3538ed7f1e848c37b316d502484154c2f", func := "loop.example/g00281/laws.FnHome", spec := "fnHome", unfollowed := true, recurses := true, apart := false }
def FnHomeSaid : Prop := fnHomeRow.holds Try.pinned (OpenSpec.ofChange fnHomeSpec)

/-- ITS FALSE NEIGHBOUR: 'it returns false'. Refute it at one input. -/
def fnHomeWrong : ChangeSpec := { name := "fnHome", fn := fun _ => fun
  | [d] => { results := [.lit (.bool false)], args := [d] }
  | _ => none }
def FnHomeWrongFalsely : Prop := fnHomeRow.holds Try.pinned (OpenSpec.ofChange fnHomeWrong)

/- THE SECOND FORM. 'bulk': how many values and letters a reading holds, each counted each time it is reached (what is shared counts as often as it is met; a slice's spare places count too). A statement '..UptoSaid' is the law's where the arguments, and the package variables that the reading takes, are together of bulk at most 1048576: NARROWER than '..Said'. Prove '..Said' where nothing that the law and all that it calls make is longer than what came in: it says more and counts as full. Else prove '..UptoSaid'. A law counts once. -/
mutual
def uptoBulk {H : Type} : DataW H → Nat
  | .lit (.string bytes) => bytes.length + 1
  | .lit _ => 1
  | .nil => 1
  | .ptr d => uptoBulk d + 1
  | .slice elems spare => uptoBulkAll elems + uptoBulkAll spare + 1
  | .agg parts => uptoBulkAll parts + 1
  | .iface _ d => uptoBulk d + 1
  | .map entries => uptoBulkEntries entries + 1
  | .held _ => 1
def uptoBulkAll {H : Type} : List (DataW H) → Nat
  | [] => 0
  | d :: r => uptoBulk d + uptoBulkAll r
def uptoBulkEntries {H : Type} : List (Lit × DataW H) → Nat
  | [] => 0
  | x :: r => uptoBulkEntry x + uptoBulkEntries r
def uptoBulkEntry {H : Type} : Lit × DataW H → Nat
  | (.string bytes, d) => bytes.length + uptoBulk d + 1
  | (_, d) => uptoBulk d + 1
 end
def uptoSmall : (H : Type) → List (DataW H) → Bool := fun _ ds => decide (uptoBulkAll ds ≤ 1048576)
def OpenSpec.upto (s : _root_.Go.ChangeSpec) : _root_.Go.OpenSpec := { _root_.Go.OpenSpec.ofChange s with cond := some uptoSmall }

/-- 'laws.FnExactFlatRun', WHERE WHAT IT READS IS OF BULK AT MOST 1048576: true; the input reads as it did. -/
def fnExactFlatRunUptoRow : OpenClaim := { program := "ytimpkielhcgfdaa", sum := "5f3c42785e45d1740049fbb036ba2df3538ed7f1e848c37b316d502484154c2f", func := "loop.example/g00281/laws.FnExactFlatRun", spec := "fnExactFlatRun", unfollowed := true, recurses := true, apart := false, narrowed := true }
def FnExactFlatRunUptoSaid : Prop := fnExactFlatRunUptoRow.holds Try.pinned (OpenSpec.upto fnExactFlatRunSpec)

/-- 'laws.FnQueueEnds', WHERE WHAT IT READS IS OF BULK AT MOST 1048576: true; the input reads as it did. -/
def fnQueueEndsUptoRow : OpenClaim := { program := "ytimpkielhcgfdaa", sum := "5f3c42785e45d1740049fbb036ba2df3538ed7f1e848c37b316d502484154c2f", func := "loop.example/g00281/laws.FnQueueEnds", spec := "fnQueueEnds", unfollowed := true, recurses := true, apart := false, narrowed := true }
def FnQueueEndsUptoSaid : Prop := fnQueueEndsUptoRow.holds Try.pinned (OpenSpec.upto fnQueueEndsSpec)

/-- 'laws.FnMsgCut', WHERE WHAT IT READS IS OF BULK AT MOST 1048576: true; the input reads as it did. -/
def fnMsgCutUptoRow : OpenClaim := { program := "ytimpkielhcgfdaa", sum := "5f3c42785e45d1740049fbb036ba2df3538ed7f1e848c37b316d502484154c2f", func := "loop.example/g00281/laws.FnMsgCut", spec := "fnMsgCut", unfollowed := true, recurses := true, apart := false, narrowed := true }
def FnMsgCutUptoSaid : Prop := fnMsgCutUptoRow.holds Try.pinned (OpenSpec.upto fnMsgCutSpec)

/-- 'laws.FnFrameHears', WHERE WHAT IT READS IS OF BULK AT MOST 1048576: true; the input reads as it did. -/
def fnFrameHearsUptoRow : OpenClaim := { program := "ytimpkielhcgfdaa", sum := "5f3c42785e45d1740049fbb036ba2df3538ed7f1e848c37b316d502484154c2f", func := "loop.example/g00281/laws.FnFrameHears", spec := "fnFrameHears", unfollowed := true, recurses := true, apart := false, narrowed := true }
def FnFrameHearsUptoSaid : Prop := fnFrameHearsUptoRow.holds Try.pinned (OpenSpec.upto fnFrameHearsSpec)

/-- 'laws.FnBlockPages', WHERE WHAT IT READS IS OF BULK AT MOST 1048576: true; the input reads as it did. -/
def fnBlockPagesUptoRow : OpenClaim := { program := "ytimpkielhcgfdaa", sum := "5f3c42785e45d1740049fbb036ba2df3538ed7f1e848c37b316d502484154c2f", func := "loop.example/g00281/laws.FnBlockPages", spec := "fnBlockPages", apart := false, narrowed := true }
def FnBlockPagesUptoSaid : Prop := fnBlockPagesUptoRow.holds Try.pinned (OpenSpec.upto fnBlockPagesSpec)

/-- 'laws.FnMsgs', WHERE WHAT IT READS IS OF BULK AT MOST 1048576: true; the input reads as it did. -/
def fnMsgsUptoRow : OpenClaim := { program := "ytimpkielhcgfdaa", sum := "5f3c42785e45d1740049fbb036ba2df3538ed7f1e848c37b316d502484154c2f", func := "loop.example/g00281/laws.FnMsgs", spec := "fnMsgs", unfollowed := true, recurses := true, apart := false, narrowed := true }
def FnMsgsUptoSaid : Prop := fnMsgsUptoRow.holds Try.pinned (OpenSpec.upto fnMsgsSpec)

/-- 'laws.FnBlocks', WHERE WHAT IT READS IS OF BULK AT MOST 1048576: true; the input reads as it did. -/
def fnBlocksUptoRow : OpenClaim := { program := "ytimpkielhcgfdaa", sum := "5f3c42785e45d1740049fbb036ba2df3538ed7f1e848c37b316d502484154c2f", func := "loop.example/g00281/laws.FnBlocks", spec := "fnBlocks", apart := false, narrowed := true }
def FnBlocksUptoSaid : Prop := fnBlocksUptoRow.holds Try.pinned (OpenSpec.upto fnBlocksSpec)

/-- 'laws.FnLines', WHERE WHAT IT READS IS OF BULK AT MOST 1048576: true; the input reads as it did. -/
def fnLinesUptoRow : OpenClaim := { program := "ytimpkielhcgfdaa", sum := "5f3c42785e45d1740049fbb036ba2df3538ed7f1e848c37b316d502484154c2f", func := "loop.example/g00281/laws.FnLines", spec := "fnLines", unfollowed := true, recurses := true, apart := false, narrowed := true }
def FnLinesUptoSaid : Prop := fnLinesUptoRow.holds Try.pinned (OpenSpec.upto fnLinesSpec)

/-- 'laws.FnExactAcked', WHERE WHAT IT READS IS OF BULK AT MOST 1048576: true; the input reads as it did. -/
def fnExactAckedUptoRow : OpenClaim := { program := "ytimpkielhcgfdaa", sum := "5f3c42785e45d1740049fbb036ba2df3538ed7f1e848c37b316d502484154c2f", func := "loop.example/g00281/laws.FnExactAcked", spec := "fnExactAcked", unfollowed := true, recurses := true, apart := false, narrowed := true }
def FnExactAckedUptoSaid : Prop := fnExactAckedUptoRow.holds Try.pinned (OpenSpec.upto fnExactAckedSpec)

/-- 'laws.FnExactQueue', WHERE WHAT IT READS IS OF BULK AT MOST 1048576: true; the input reads as it did. -/
def fnExactQueueUptoRow : OpenClaim := { program := "ytimpkielhcgfdaa", sum := "5f3c42785e45d1740049fbb036ba2df3538ed7f1e848c37b316d502484154c2f", func := "loop.example/g00281/laws.FnExactQueue", spec := "fnExactQueue", unfollowed := true, recurses := true, apart := false, narrowed := true }
def FnExactQueueUptoSaid : Prop := fnExactQueueUptoRow.holds Try.pinned (OpenSpec.upto fnExactQueueSpec)

/-- 'laws.FnExactNodeNew', WHERE WHAT IT READS IS OF BULK AT MOST 1048576: true; the input reads as it did. -/
def fnExactNodeNewUptoRow : OpenClaim := { program := "ytimpkielhcgfdaa", sum := "5f3c42785e45d1740049fbb036ba2df3538ed7f1e848c37b316d502484154c2f", func := "loop.example/g00281/laws.FnExactNodeNew", spec := "fnExactNodeNew", apart := false, narrowed := true }
def FnExactNodeNewUptoSaid : Prop := fnExactNodeNewUptoRow.holds Try.pinned (OpenSpec.upto fnExactNodeNewSpec)

/-- 'laws.FnHome', WHERE WHAT IT READS IS OF BULK AT MOST 1048576: true; the input reads as it did. -/
def fnHomeUptoRow : OpenClaim := { program := "ytimpkielhcgfdaa", sum := "5f3c42785e45d1740049fbb036ba2df3538ed7f1e848c37b316d502484154c2f", func := "loop.example/g00281/laws.FnHome", spec := "fnHome", unfollowed := true, recurses := true, apart := false, narrowed := true }
def FnHomeUptoSaid : Prop := fnHomeUptoRow.holds Try.pinned (OpenSpec.upto fnHomeSpec)

end Rows
end Go.Proofs.Ytimpkielhcgfdaa
