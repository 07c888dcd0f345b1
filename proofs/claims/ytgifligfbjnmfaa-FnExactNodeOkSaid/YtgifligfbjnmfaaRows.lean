/-
  No cell of these rows narrows 'for every input' (looked for: loops, veiled, ifaces, maps, wideKeys, modest, calm, conditions, laid).
  DERIVED. THE GIVEN ROWS OF THIS SEAT. 11 by the template 'for every input the law returns true; each argument reads behind the call as it read before'; 0 by the template 'total and deterministic' (their statements: YtgifligfbjnmfaaTotals.lean).
  GIVEN WITH THE SEED: the statements are not yours to turn. If you find one false, say at which input.
  Laid BY PROGRAM, IN A SANDBOX (cutbox-rows.mjs): the forced cells as the released guide's own fill.sh prints them over the translation 5d9f194b632ac457… (all of the seat's roots in one cut). By AI agents, Wed Nov 11 2026. No macro, syntax, notation, axiom, sorry.
-/
import Derived.Test.YtgifligfbjnmfaaChecked
import GoSem.Claim
import GoSem.ClaimJoined
import GoSem.ClaimMapViews
import Derived.JoinedTies
import Derived.KernelRfl
namespace Go.Proofs.Ytgifligfbjnmfaa
/- THE CELL 'sum', in the pinned program and in every row, IS THE sha256 OF THE DUMP (.gsa) THAT YtgifligfbjnmfaaProg.lean LOADS. Nothing in Lean hashes anything: it is a label: what it is worth is what the hold of that sum in a sandbox is worth. -/
noncomputable def Try.pinned : Pinned := { name := "ytgifligfbjnmfaa", sum := "5d9f194b632ac457c4fa328f181b7cd3eb5fed6fbd691c38a77e594d7a053f48", checked := Try.checked }
namespace Rows
def none {H : Type} : Left H := { results := [], args := [] }

/-- 'laws.FnExactMsgBytes': WHATEVER THE INPUT: true; the input reads as it did. -/
def fnExactMsgBytesSpec : ChangeSpec := { name := "fnExactMsgBytes", fn := fun _ => fun
  | [d] => { results := [.lit (.bool true)], args := [d] }
  | _ => none }
def fnExactMsgBytesRow : OpenClaim := { program := "ytgifligfbjnmfaa", sum := "5d9f194b632ac457c4fa328f181b7cd3eb5fed6fbd691c38a77e594d7a053f48", func := "loop.example/g00281/laws.FnExactMsgBytes", spec := "fnExactMsgBytes", unfollowed := true, recurses := true, apart := false }
def FnExactMsgBytesSaid : Prop := fnExactMsgBytesRow.holds Try.pinned (OpenSpec.ofChange fnExactMsgBytesSpec)

/-- ITS FALSE NEIGHBOUR: 'it returns false'. Refute it at one input. -/
def fnExactMsgBytesWrong : ChangeSpec := { name := "fnExactMsgBytes", fn := fun _ => fun
  | [d] => { results := [.lit (.bool false)], args := [d] }
  | _ => none }
def FnExactMsgBytesWrongFalsely : Prop := fnExactMsgBytesRow.holds Try.pinned (OpenSpec.ofChange fnExactMsgBytesWrong)

/-- 'laws.FnExactBlockOf': WHATEVER THE INPUT: true; the input reads as it did. -/
def fnExactBlockOfSpec : ChangeSpec := { name := "fnExactBlockOf", fn := fun _ => fun
  | [d1, d2] => { results := [.lit (.bool true)], args := [d1, d2] }
  | _ => none }
def fnExactBlockOfRow : OpenClaim := { program := "ytgifligfbjnmfaa", sum := "5d9f194b632ac457c4fa328f181b7cd3eb5fed6fbd691c38a77e594d7a053f48", func := "loop.example/g00281/laws.FnExactBlockOf", spec := "fnExactBlockOf", apart := false }
def FnExactBlockOfSaid : Prop := fnExactBlockOfRow.holds Try.pinned (OpenSpec.ofChange fnExactBlockOfSpec)

/-- ITS FALSE NEIGHBOUR: 'it returns false'. Refute it at one input. -/
def fnExactBlockOfWrong : ChangeSpec := { name := "fnExactBlockOf", fn := fun _ => fun
  | [d1, d2] => { results := [.lit (.bool false)], args := [d1, d2] }
  | _ => none }
def FnExactBlockOfWrongFalsely : Prop := fnExactBlockOfRow.holds Try.pinned (OpenSpec.ofChange fnExactBlockOfWrong)

/-- 'laws.FnExactFrameHear': WHATEVER THE INPUT: true; the input reads as it did. -/
def fnExactFrameHearSpec : ChangeSpec := { name := "fnExactFrameHear", fn := fun _ => fun
  | [d1, d2] => { results := [.lit (.bool true)], args := [d1, d2] }
  | _ => none }
def fnExactFrameHearRow : OpenClaim := { program := "ytgifligfbjnmfaa", sum := "5d9f194b632ac457c4fa328f181b7cd3eb5fed6fbd691c38a77e594d7a053f48", func := "loop.example/g00281/laws.FnExactFrameHear", spec := "fnExactFrameHear", unfollowed := true, recurses := true, apart := false }
def FnExactFrameHearSaid : Prop := fnExactFrameHearRow.holds Try.pinned (OpenSpec.ofChange fnExactFrameHearSpec)

/-- ITS FALSE NEIGHBOUR: 'it returns false'. Refute it at one input. -/
def fnExactFrameHearWrong : ChangeSpec := { name := "fnExactFrameHear", fn := fun _ => fun
  | [d1, d2] => { results := [.lit (.bool false)], args := [d1, d2] }
  | _ => none }
def FnExactFrameHearWrongFalsely : Prop := fnExactFrameHearRow.holds Try.pinned (OpenSpec.ofChange fnExactFrameHearWrong)

/-- 'laws.FnExactMsgOf': WHATEVER THE INPUT: true; the input reads as it did. -/
def fnExactMsgOfSpec : ChangeSpec := { name := "fnExactMsgOf", fn := fun _ => fun
  | [d] => { results := [.lit (.bool true)], args := [d] }
  | _ => none }
def fnExactMsgOfRow : OpenClaim := { program := "ytgifligfbjnmfaa", sum := "5d9f194b632ac457c4fa328f181b7cd3eb5fed6fbd691c38a77e594d7a053f48", func := "loop.example/g00281/laws.FnExactMsgOf", spec := "fnExactMsgOf", unfollowed := true, recurses := true, apart := false }
def FnExactMsgOfSaid : Prop := fnExactMsgOfRow.holds Try.pinned (OpenSpec.ofChange fnExactMsgOfSpec)

/-- ITS FALSE NEIGHBOUR: 'it returns false'. Refute it at one input. -/
def fnExactMsgOfWrong : ChangeSpec := { name := "fnExactMsgOf", fn := fun _ => fun
  | [d] => { results := [.lit (.bool false)], args := [d] }
  | _ => none }
def FnExactMsgOfWrongFalsely : Prop := fnExactMsgOfRow.holds Try.pinned (OpenSpec.ofChange fnExactMsgOfWrong)

/-- 'laws.FnExactWork': WHATEVER THE INPUT: true; the input reads as it did. -/
def fnExactWorkSpec : ChangeSpec := { name := "fnExactWork", fn := fun _ => fun
  | [d1, d2, d3] => { results := [.lit (.bool true)], args := [d1, d2, d3] }
  | _ => none }
def fnExactWorkRow : OpenClaim := { program := "ytgifligfbjnmfaa", sum := "5d9f194b632ac457c4fa328f181b7cd3eb5fed6fbd691c38a77e594d7a053f48", func := "loop.example/g00281/laws.FnExactWork", spec := "fnExactWork", unfollowed := true, recurses := true, apart := false }
def FnExactWorkSaid : Prop := fnExactWorkRow.holds Try.pinned (OpenSpec.ofChange fnExactWorkSpec)

/-- ITS FALSE NEIGHBOUR: 'it returns false'. Refute it at one input. -/
def fnExactWorkWrong : ChangeSpec := { name := "fnExactWork", fn := fun _ => fun
  | [d1, d2, d3] => { results := [.lit (.bool false)], args := [d1, d2, d3] }
  | _ => none }
def FnExactWorkWrongFalsely : Prop := fnExactWorkRow.holds Try.pinned (OpenSpec.ofChange fnExactWorkWrong)

/-- 'laws.FnExactFlatStep': WHATEVER THE INPUT: true; the input reads as it did. -/
def fnExactFlatStepSpec : ChangeSpec := { name := "fnExactFlatStep", fn := fun _ => fun
  | [d1, d2] => { results := [.lit (.bool true)], args := [d1, d2] }
  | _ => none }
def fnExactFlatStepRow : OpenClaim := { program := "ytgifligfbjnmfaa", sum := "5d9f194b632ac457c4fa328f181b7cd3eb5fed6fbd691c38a77e594d7a053f48", func := "loop.example/g00281/laws.FnExactFlatStep", spec := "fnExactFlatStep", unfollowed := true, recurses := true, apart := false }
def FnExactFlatStepSaid : Prop := fnExactFlatStepRow.holds Try.pinned (OpenSpec.ofChange fnExactFlatStepSpec)

/-- ITS FALSE NEIGHBOUR: 'it returns false'. Refute it at one input. -/
def fnExactFlatStepWrong : ChangeSpec := { name := "fnExactFlatStep", fn := fun _ => fun
  | [d1, d2] => { results := [.lit (.bool false)], args := [d1, d2] }
  | _ => none }
def FnExactFlatStepWrongFalsely : Prop := fnExactFlatStepRow.holds Try.pinned (OpenSpec.ofChange fnExactFlatStepWrong)

/-- 'laws.FnNums': WHATEVER THE INPUT: true; the input reads as it did. -/
def fnNumsSpec : ChangeSpec := { name := "fnNums", fn := fun _ => fun
  | [d] => { results := [.lit (.bool true)], args := [d] }
  | _ => none }
def fnNumsRow : OpenClaim := { program := "ytgifligfbjnmfaa", sum := "5d9f194b632ac457c4fa328f181b7cd3eb5fed6fbd691c38a77e594d7a053f48", func := "loop.example/g00281/laws.FnNums", spec := "fnNums", apart := false }
def FnNumsSaid : Prop := fnNumsRow.holds Try.pinned (OpenSpec.ofChange fnNumsSpec)

/-- ITS FALSE NEIGHBOUR: 'it returns false'. Refute it at one input. -/
def fnNumsWrong : ChangeSpec := { name := "fnNums", fn := fun _ => fun
  | [d] => { results := [.lit (.bool false)], args := [d] }
  | _ => none }
def FnNumsWrongFalsely : Prop := fnNumsRow.holds Try.pinned (OpenSpec.ofChange fnNumsWrong)

/-- 'laws.FnTargets': WHATEVER THE INPUT: true; the input reads as it did. -/
def fnTargetsSpec : ChangeSpec := { name := "fnTargets", fn := fun _ => fun
  | [d] => { results := [.lit (.bool true)], args := [d] }
  | _ => none }
def fnTargetsRow : OpenClaim := { program := "ytgifligfbjnmfaa", sum := "5d9f194b632ac457c4fa328f181b7cd3eb5fed6fbd691c38a77e594d7a053f48", func := "loop.example/g00281/laws.FnTargets", spec := "fnTargets", apart := false }
def FnTargetsSaid : Prop := fnTargetsRow.holds Try.pinned (OpenSpec.ofChange fnTargetsSpec)

/-- ITS FALSE NEIGHBOUR: 'it returns false'. Refute it at one input. -/
def fnTargetsWrong : ChangeSpec := { name := "fnTargets", fn := fun _ => fun
  | [d] => { results := [.lit (.bool false)], args := [d] }
  | _ => none }
def FnTargetsWrongFalsely : Prop := fnTargetsRow.holds Try.pinned (OpenSpec.ofChange fnTargetsWrong)

/-- 'laws.FnFrames': WHATEVER THE INPUT: true; the input reads as it did. -/
def fnFramesSpec : ChangeSpec := { name := "fnFrames", fn := fun _ => fun
  | [d] => { results := [.lit (.bool true)], args := [d] }
  | _ => none }
def fnFramesRow : OpenClaim := { program := "ytgifligfbjnmfaa", sum := "5d9f194b632ac457c4fa328f181b7cd3eb5fed6fbd691c38a77e594d7a053f48", func := "loop.example/g00281/laws.FnFrames", spec := "fnFrames", unfollowed := true, recurses := true, apart := false }
def FnFramesSaid : Prop := fnFramesRow.holds Try.pinned (OpenSpec.ofChange fnFramesSpec)

/-- ITS FALSE NEIGHBOUR: 'it returns false'. Refute it at one input. -/
def fnFramesWrong : ChangeSpec := { name := "fnFrames", fn := fun _ => fun
  | [d] => { results := [.lit (.bool false)], args := [d] }
  | _ => none }
def FnFramesWrongFalsely : Prop := fnFramesRow.holds Try.pinned (OpenSpec.ofChange fnFramesWrong)

/-- 'laws.FnCodes': WHATEVER THE INPUT: true; the input reads as it did. -/
def fnCodesSpec : ChangeSpec := { name := "fnCodes", fn := fun _ => fun
  | [d] => { results := [.lit (.bool true)], args := [d] }
  | _ => none }
def fnCodesRow : OpenClaim := { program := "ytgifligfbjnmfaa", sum := "5d9f194b632ac457c4fa328f181b7cd3eb5fed6fbd691c38a77e594d7a053f48", func := "loop.example/g00281/laws.FnCodes", spec := "fnCodes", apart := false }
def FnCodesSaid : Prop := fnCodesRow.holds Try.pinned (OpenSpec.ofChange fnCodesSpec)

/-- ITS FALSE NEIGHBOUR: 'it returns false'. Refute it at one input. -/
def fnCodesWrong : ChangeSpec := { name := "fnCodes", fn := fun _ => fun
  | [d] => { results := [.lit (.bool false)], args := [d] }
  | _ => none }
def FnCodesWrongFalsely : Prop := fnCodesRow.holds Try.pinned (OpenSpec.ofChange fnCodesWrong)

/-- 'laws.FnExactNodeOk': WHATEVER THE INPUT: true; the input reads as it did. -/
def fnExactNodeOkSpec : ChangeSpec := { name := "fnExactNodeOk", fn := fun _ => fun
  | [d1, d2] => { results := [.lit (.bool true)], args := [d1, d2] }
  | _ => none }
def fnExactNodeOkRow : OpenClaim := { program := "ytgifligfbjnmfaa", sum := "5d9f194b632ac457c4fa328f181b7cd3eb5fed6fbd691c38a77e594d7a053f48", func := "loop.example/g00281/laws.FnExactNodeOk", spec := "fnExactNodeOk", unfollowed := true, recurses := true, apart := false }
def FnExactNodeOkSaid : Prop := fnExactNodeOkRow.holds Try.pinned (OpenSpec.ofChange fnExactNodeOkSpec)

/-- ITS FALSE NEIGHBOUR: 'it returns false'. Refute it at one input. -/
def fnExactNodeOkWrong : ChangeSpec := { name := "fnExactNodeOk", fn := fun _ => fun
  | [d1, d2] => { results := [.lit (.bool false)], args := [d1, d2] }
  | _ => none }
def FnExactNodeOkWrongFalsely : Prop := fnExactNodeOkRow.holds Try.pinned (OpenSpec.ofChange fnExactNodeOkWrong)

/- THE SECOND FORM. 'bulk': how many values and letters a reading holds, each counted each time it is reached (what is shared counts as often as it is met; a slice's spare places count too). A statement '..UptoSaid' is the law's where the arguments, and the package variables that the reading takes, are together of bulk at most 1048576: NARROWER than '..Said'. Prove '..Said' where nothing that the law and all that it calls make is longer than what came in: it says more and counts as full. Else prove '..UptoSaid'. A law counts once. -/
mutual
def uptoBulk {H : Type} : DataW H → Nat
  | .lit (.string bytes) => bytes.length + 1
  | .lit _ => 1
  | .nil => 1
  | .ptr d => uptoBulk d + 1
  | .slice elems spare => uptoBulkAll elems + uptoBulkAll spare + 1
  | .agg parts => uptoBulkAll parts + 1
  | .iface _ d => uptoBulk d + 1
  | .map entries => uptoBulkEntries entries + 1
  | .held _ => 1
def uptoBulkAll {H : Type} : List (DataW H) → Nat
  | [] => 0
  | d :: r => uptoBulk d + uptoBulkAll r
def uptoBulkEntries {H : Type} : List (Lit × DataW H) → Nat
  | [] => 0
  | x :: r => uptoBulkEntry x + uptoBulkEntries r
def uptoBulkEntry {H : Type} : Lit × DataW H → Nat
  | (.string bytes, d) => bytes.length + uptoBulk d + 1
  | (_, d) => uptoBulk d + 1
 end
def uptoSmall : (H : Type) → List (DataW H) → Bool := fun _ ds => decide (uptoBulkAll ds ≤ 1048576)
def OpenSpec.upto (s : _root_.Go.ChangeSpec) : _root_.Go.OpenSpec := { _root_.Go.OpenSpec.ofChange s with cond := some uptoSmall }

/-- 'laws.FnExactMsgBytes', WHERE WHAT IT READS IS OF BULK AT MOST 1048576: true; the input reads as it did. -/
def fnExactMsgBytesUptoRow : OpenClaim := { program := "ytgifligfbjnmfaa", sum := "5d9f194b632ac457c4fa328f181b7cd3eb5fed6fbd691c38a77e594d7a053f48", func := "loop.example/g00281/laws.FnExactMsgBytes", spec := "fnExactMsgBytes", unfollowed := true, recurses := true, apart := false, narrowed := true }
def FnExactMsgBytesUptoSaid : Prop := fnExactMsgBytesUptoRow.holds Try.pinned (OpenSpec.upto fnExactMsgBytesSpec)

/-- 'laws.FnExactBlockOf', WHERE WHAT IT READS IS OF BULK AT MOST 1048576: true; the input reads as it did. -/
def fnExactBlockOfUptoRow : OpenClaim := { program := "ytgifligfbjnmfaa", sum := "5d9f194b632ac457c4fa328f181b7cd3eb5fed6fbd691c38a77e594d7a053f48", func := "loop.example/g00281/laws.FnExactBlockOf", spec := "fnExactBlockOf", apart := false, narrowed := true }
def FnExactBlockOfUptoSaid : Prop := fnExactBlockOfUptoRow.holds Try.pinned (OpenSpec.upto fnExactBlockOfSpec)

/-- 'laws.FnExactFrameHear', WHERE WHAT IT READS IS OF BULK AT MOST 1048576: true; the input reads as it did. -/
def fnExactFrameHearUptoRow : OpenClaim := { program := "ytgifligfbjnmfaa", sum := "5d9f194b632ac457c4fa328f181b7cd3eb5fed6fbd691c38a77e594d7a053f48", func := "loop.example/g00281/laws.FnExactFrameHear", spec := "fnExactFrameHear", unfollowed := true, recurses := true, apart := false, narrowed := true }
def FnExactFrameHearUptoSaid : Prop := fnExactFrameHearUptoRow.holds Try.pinned (OpenSpec.upto fnExactFrameHearSpec)

/-- 'laws.FnExactMsgOf', WHERE WHAT IT READS IS OF BULK AT MOST 1048576: true; the input reads as it did. -/
def fnExactMsgOfUptoRow : OpenClaim := { program := "ytgifligfbjnmfaa", sum := "5d9f194b632ac457c4fa328f181b7cd3eb5fed6fbd691c38a77e594d7a053f48", func := "loop.example/g00281/laws.FnExactMsgOf", spec := "fnExactMsgOf", unfollowed := true, recurses := true, apart := false, narrowed := true }
def FnExactMsgOfUptoSaid : Prop := fnExactMsgOfUptoRow.holds Try.pinned (OpenSpec.upto fnExactMsgOfSpec)

/-- 'laws.FnExactWork', WHERE WHAT IT READS IS OF BULK AT MOST 1048576: true; the input reads as it did. -/
def fnExactWorkUptoRow : OpenClaim := { program := "ytgifligfbjnmfaa", sum := "5d9f194b632ac457c4fa328f181b7cd3eb5fed6fbd691c38a77e594d7a053f48", func := "loop.example/g00281/laws.FnExactWork", spec := "fnExactWork", unfollowed := true, recurses := true, apart := false, narrowed := true }
def FnExactWorkUptoSaid : Prop := fnExactWorkUptoRow.holds Try.pinned (OpenSpec.upto fnExactWorkSpec)

/-- 'laws.FnExactFlatStep', WHERE WHAT IT READS IS OF BULK AT MOST 1048576: true; the input reads as it did. -/
def fnExactFlatStepUptoRow : OpenClaim := { program := "ytgifligfbjnmfaa", sum := "5d9f194b632ac457c4fa328f181b7cd3eb5fed6fbd691c38a77e594d7a053f48", func := "loop.example/g00281/laws.FnExactFlatStep", spec := "fnExactFlatStep", unfollowed := true, recurses := true, apart := false, narrowed := true }
def FnExactFlatStepUptoSaid : Prop := fnExactFlatStepUptoRow.holds Try.pinned (OpenSpec.upto fnExactFlatStepSpec)

/-- 'laws.FnNums', WHERE WHAT IT READS IS OF BULK AT MOST 1048576: true; the input reads as it did. -/
def fnNumsUptoRow : OpenClaim := { program := "ytgifligfbjnmfaa", sum := "5d9f194b632ac457c4fa328f181b7cd3eb5fed6fbd691c38a77e594d7a053f48", func := "loop.example/g00281/laws.FnNums", spec := "fnNums", apart := false, narrowed := true }
def FnNumsUptoSaid : Prop := fnNumsUptoRow.holds Try.pinned (OpenSpec.upto fnNumsSpec)

/-- 'laws.FnTargets', WHERE WHAT IT READS IS OF BULK AT MOST 1048576: true; the input reads as it did. -/
def fnTargetsUptoRow : OpenClaim := { program := "ytgifligfbjnmfaa", sum := "5d9f194b632ac457c4fa328f181b7cd3eb5fed6fbd691c38a77e594d7a053f48", func := "loop.example/g00281/laws.FnTargets", spec := "fnTargets", apart := false, narrowed := true }
def FnTargetsUptoSaid : Prop := fnTargetsUptoRow.holds Try.pinned (OpenSpec.upto fnTargetsSpec)

/-- 'laws.FnFrames', WHERE WHAT IT READS IS OF BULK AT MOST 1048576: true; the input reads as it did. -/
def fnFramesUptoRow : OpenClaim := { program := "ytgifligfbjnmfaa", sum := "5d9f194b632ac457c4fa328f181b7cd3eb5fed6fbd691c38a77e594d7a053f48", func := "loop.example/g00281/laws.FnFrames", spec := "fnFrames", unfollowed := true, recurses := true, apart := false, narrowed := true }
def FnFramesUptoSaid : Prop := fnFramesUptoRow.holds Try.pinned (OpenSpec.upto fnFramesSpec)

/-- 'laws.FnCodes', WHERE WHAT IT READS IS OF BULK AT MOST 1048576: true; the input reads as it did. -/
def fnCodesUptoRow : OpenClaim := { program := "ytgifligfbjnmfaa", sum := "5d9f194b632ac457c4fa328f181b7cd3eb5fed6fbd691c38a77e594d7a053f48", func := "loop.example/g00281/laws.FnCodes", spec := "fnCodes", apart := false, narrowed := true }
def FnCodesUptoSaid : Prop := fnCodesUptoRow.holds Try.pinned (OpenSpec.upto fnCodesSpec)

/-- 'laws.FnExactNodeOk', WHERE WHAT IT READS IS OF BULK AT MOST 1048576: true; the input reads as it did. -/
def fnExactNodeOkUptoRow : OpenClaim := { program := "ytgifligfbjnmfaa", sum := "5d9f194b632ac457c4fa328f181b7cd3eb5fed6fbd691c38a77e594d7a053f48", func := "loop.example/g00281/laws.FnExactNodeOk", spec := "fnExactNodeOk", unfollowed := true, recurses := true, apart := false, narrowed := true }
def FnExactNodeOkUptoSaid : Prop := fnExactNodeOkUptoRow.holds Try.pinned (OpenSpec.upto fnExactNodeOkSpec)

end Rows
end Go.Proofs.Ytgifligfbjnmfaa
