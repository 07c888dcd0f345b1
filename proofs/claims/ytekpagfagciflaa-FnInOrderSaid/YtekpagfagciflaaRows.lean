/-
  No cell of these rows narrows 'for every input' (looked for: loops, veiled, ifaces, maps, wideKeys, modest, calm, conditions, laid).
  DERIVED. THE GIVEN ROWS OF THIS SEAT. 12 by the template 'for every input the law returns true; each argument reads behind the call as it read before'; 0 by the template 'total and deterministic' (their statements: YtekpagfagciflaaTotals.lean).
  GIVEN WITH THE SEED: the statements are not yours to turn. If you find one false, say at which input.
  Laid BY PROGRAM, IN A SANDBOX (cutbox-rows.mjs): the forced cells as the released guide's own fill.sh prints them over the translation 01043e9f0867e163… (all of the seat's roots in one cut). By AI agents, Wed Nov 11 2026. No macro, syntax, notation, axiom, sorry.
-/
import Derived.Test.YtekpagfagciflaaChecked
import GoSem.Claim
import GoSem.ClaimJoined
import GoSem.ClaimMapViews
import Derived.JoinedTies
import Derived.KernelRfl
namespace Go.Proofs.Ytekpagfagciflaa
/- THE CELL 'sum', in the pinned program and in every row, IS THE sha256 OF THE DUMP (.gsa) THAT YtekpagfagciflaaProg.lean LOADS. Nothing in Lean hashes anything: it is a label: what it is worth is what the hold of that sum in a sandbox is worth. -/
noncomputable def Try.pinned : Pinned := { name := "ytekpagfagciflaa", sum := "01043e9f0867e163fcdd0414a8126ab6d204d364fab9736fd021d92793cd0822", checked := Try.checked }
namespace Rows
def none {H : Type} : Left H := { results := [], args := [] }

/-- 'laws.FnExactConstants': WHATEVER THE INPUT: true; the input reads as it did. -/
def fnExactConstantsSpec : ChangeSpec := { name := "fnExactConstants", fn := fun _ => fun
  | [] => { results := [.lit (.bool true)], args := [] }
  | _ => none }
def fnExactConstantsRow : OpenClaim := { program := "ytekpagfagciflaa", sum := "01043e9f0867e163fcdd0414a8126ab6d204d364fab9736fd021d92793cd0822", func := "loop.example/g00281/laws.FnExactConstants", spec := "fnExactConstants", apart := false }
def FnExactConstantsSaid : Prop := fnExactConstantsRow.holds Try.pinned (OpenSpec.ofChange fnExactConstantsSpec)

/-- ITS FALSE NEIGHBOUR: 'it returns false'. Refute it at one input. -/
def fnExactConstantsWrong : ChangeSpec := { name := "fnExactConstants", fn := fun _ => fun
  | [] => { results := [.lit (.bool false)], args := [] }
  | _ => none }
def FnExactConstantsWrongFalsely : Prop := fnExactConstantsRow.holds Try.pinned (OpenSpec.ofChange fnExactConstantsWrong)

/-- 'laws.FnExactArrived': WHATEVER THE INPUT: true; the input reads as it did. -/
def fnExactArrivedSpec : ChangeSpec := { name := "fnExactArrived", fn := fun _ => fun
  | [d1, d2] => { results := [.lit (.bool true)], args := [d1, d2] }
  | _ => none }
def fnExactArrivedRow : OpenClaim := { program := "ytekpagfagciflaa", sum := "01043e9f0867e163fcdd0414a8126ab6d204d364fab9736fd021d92793cd0822", func := "loop.example/g00281/laws.FnExactArrived", spec := "fnExactArrived", apart := false }
def FnExactArrivedSaid : Prop := fnExactArrivedRow.holds Try.pinned (OpenSpec.ofChange fnExactArrivedSpec)

/-- ITS FALSE NEIGHBOUR: 'it returns false'. Refute it at one input. -/
def fnExactArrivedWrong : ChangeSpec := { name := "fnExactArrived", fn := fun _ => fun
  | [d1, d2] => { results := [.lit (.bool false)], args := [d1, d2] }
  | _ => none }
def FnExactArrivedWrongFalsely : Prop := fnExactArrivedRow.holds Try.pinned (OpenSpec.ofChange fnExactArrivedWrong)

/-- 'laws.FnExactPutNum': WHATEVER THE INPUT: true; the input reads as it did. -/
def fnExactPutNumSpec : ChangeSpec := { name := "fnExactPutNum", fn := fun _ => fun
  | [d] => { results := [.lit (.bool true)], args := [d] }
  | _ => none }
def fnExactPutNumRow : OpenClaim := { program := "ytekpagfagciflaa", sum := "01043e9f0867e163fcdd0414a8126ab6d204d364fab9736fd021d92793cd0822", func := "loop.example/g00281/laws.FnExactPutNum", spec := "fnExactPutNum", apart := false }
def FnExactPutNumSaid : Prop := fnExactPutNumRow.holds Try.pinned (OpenSpec.ofChange fnExactPutNumSpec)

/-- ITS FALSE NEIGHBOUR: 'it returns false'. Refute it at one input. -/
def fnExactPutNumWrong : ChangeSpec := { name := "fnExactPutNum", fn := fun _ => fun
  | [d] => { results := [.lit (.bool false)], args := [d] }
  | _ => none }
def FnExactPutNumWrongFalsely : Prop := fnExactPutNumRow.holds Try.pinned (OpenSpec.ofChange fnExactPutNumWrong)

/-- 'laws.FnExactGetNum': WHATEVER THE INPUT: true; the input reads as it did. -/
def fnExactGetNumSpec : ChangeSpec := { name := "fnExactGetNum", fn := fun _ => fun
  | [d1, d2] => { results := [.lit (.bool true)], args := [d1, d2] }
  | _ => none }
def fnExactGetNumRow : OpenClaim := { program := "ytekpagfagciflaa", sum := "01043e9f0867e163fcdd0414a8126ab6d204d364fab9736fd021d92793cd0822", func := "loop.example/g00281/laws.FnExactGetNum", spec := "fnExactGetNum", apart := false }
def FnExactGetNumSaid : Prop := fnExactGetNumRow.holds Try.pinned (OpenSpec.ofChange fnExactGetNumSpec)

/-- ITS FALSE NEIGHBOUR: 'it returns false'. Refute it at one input. -/
def fnExactGetNumWrong : ChangeSpec := { name := "fnExactGetNum", fn := fun _ => fun
  | [d1, d2] => { results := [.lit (.bool false)], args := [d1, d2] }
  | _ => none }
def FnExactGetNumWrongFalsely : Prop := fnExactGetNumRow.holds Try.pinned (OpenSpec.ofChange fnExactGetNumWrong)

/-- 'laws.FnExactHartNew': WHATEVER THE INPUT: true; the input reads as it did. -/
def fnExactHartNewSpec : ChangeSpec := { name := "fnExactHartNew", fn := fun _ => fun
  | [d] => { results := [.lit (.bool true)], args := [d] }
  | _ => none }
def fnExactHartNewRow : OpenClaim := { program := "ytekpagfagciflaa", sum := "01043e9f0867e163fcdd0414a8126ab6d204d364fab9736fd021d92793cd0822", func := "loop.example/g00281/laws.FnExactHartNew", spec := "fnExactHartNew", apart := false }
def FnExactHartNewSaid : Prop := fnExactHartNewRow.holds Try.pinned (OpenSpec.ofChange fnExactHartNewSpec)

/-- ITS FALSE NEIGHBOUR: 'it returns false'. Refute it at one input. -/
def fnExactHartNewWrong : ChangeSpec := { name := "fnExactHartNew", fn := fun _ => fun
  | [d] => { results := [.lit (.bool false)], args := [d] }
  | _ => none }
def FnExactHartNewWrongFalsely : Prop := fnExactHartNewRow.holds Try.pinned (OpenSpec.ofChange fnExactHartNewWrong)

/-- 'laws.FnExactInsOk': WHATEVER THE INPUT: true; the input reads as it did. -/
def fnExactInsOkSpec : ChangeSpec := { name := "fnExactInsOk", fn := fun _ => fun
  | [d] => { results := [.lit (.bool true)], args := [d] }
  | _ => none }
def fnExactInsOkRow : OpenClaim := { program := "ytekpagfagciflaa", sum := "01043e9f0867e163fcdd0414a8126ab6d204d364fab9736fd021d92793cd0822", func := "loop.example/g00281/laws.FnExactInsOk", spec := "fnExactInsOk", apart := false }
def FnExactInsOkSaid : Prop := fnExactInsOkRow.holds Try.pinned (OpenSpec.ofChange fnExactInsOkSpec)

/-- ITS FALSE NEIGHBOUR: 'it returns false'. Refute it at one input. -/
def fnExactInsOkWrong : ChangeSpec := { name := "fnExactInsOk", fn := fun _ => fun
  | [d] => { results := [.lit (.bool false)], args := [d] }
  | _ => none }
def FnExactInsOkWrongFalsely : Prop := fnExactInsOkRow.holds Try.pinned (OpenSpec.ofChange fnExactInsOkWrong)

/-- 'laws.FnExactEnds': WHATEVER THE INPUT: true; the input reads as it did. -/
def fnExactEndsSpec : ChangeSpec := { name := "fnExactEnds", fn := fun _ => fun
  | [d] => { results := [.lit (.bool true)], args := [d] }
  | _ => none }
def fnExactEndsRow : OpenClaim := { program := "ytekpagfagciflaa", sum := "01043e9f0867e163fcdd0414a8126ab6d204d364fab9736fd021d92793cd0822", func := "loop.example/g00281/laws.FnExactEnds", spec := "fnExactEnds", apart := false }
def FnExactEndsSaid : Prop := fnExactEndsRow.holds Try.pinned (OpenSpec.ofChange fnExactEndsSpec)

/-- ITS FALSE NEIGHBOUR: 'it returns false'. Refute it at one input. -/
def fnExactEndsWrong : ChangeSpec := { name := "fnExactEnds", fn := fun _ => fun
  | [d] => { results := [.lit (.bool false)], args := [d] }
  | _ => none }
def FnExactEndsWrongFalsely : Prop := fnExactEndsRow.holds Try.pinned (OpenSpec.ofChange fnExactEndsWrong)

/-- 'laws.FnInOrder': WHATEVER THE INPUT: true; the input reads as it did. -/
def fnInOrderSpec : ChangeSpec := { name := "fnInOrder", fn := fun _ => fun
  | [d] => { results := [.lit (.bool true)], args := [d] }
  | _ => none }
def fnInOrderRow : OpenClaim := { program := "ytekpagfagciflaa", sum := "01043e9f0867e163fcdd0414a8126ab6d204d364fab9736fd021d92793cd0822", func := "loop.example/g00281/laws.FnInOrder", spec := "fnInOrder", unfollowed := true, recurses := true, apart := false }
def FnInOrderSaid : Prop := fnInOrderRow.holds Try.pinned (OpenSpec.ofChange fnInOrderSpec)

/-- ITS FALSE NEIGHBOUR: 'it returns false'. Refute it at one input. -/
def fnInOrderWrong : ChangeSpec := { name := "fnInOrder", fn := fun _ => fun
  | [d] => { results := [.lit (.bool false)], args := [d] }
  | _ => none }
def FnInOrderWrongFalsely : Prop := fnInOrderRow.holds Try.pinned (OpenSpec.ofChange fnInOrderWrong)

/-- 'laws.FnExactCode': WHATEVER THE INPUT: true; the input reads as it did. -/
def fnExactCodeSpec : ChangeSpec := { name := "fnExactCode", fn := fun _ => fun
  | [d] => { results := [.lit (.bool true)], args := [d] }
  | _ => none }
def fnExactCodeRow : OpenClaim := { program := "ytekpagfagciflaa", sum := "01043e9f0867e163fcdd0414a8126ab6d204d364fab9736fd021d92793cd0822", func := "loop.example/g00281/laws.FnExactCode", spec := "fnExactCode", apart := false }
def FnExactCodeSaid : Prop := fnExactCodeRow.holds Try.pinned (OpenSpec.ofChange fnExactCodeSpec)

/-- ITS FALSE NEIGHBOUR: 'it returns false'. Refute it at one input. -/
def fnExactCodeWrong : ChangeSpec := { name := "fnExactCode", fn := fun _ => fun
  | [d] => { results := [.lit (.bool false)], args := [d] }
  | _ => none }
def FnExactCodeWrongFalsely : Prop := fnExactCodeRow.holds Try.pinned (OpenSpec.ofChange fnExactCodeWrong)

/-- 'laws.FnExactHartOk': WHATEVER THE INPUT: true; the input reads as it did. -/
def fnExactHartOkSpec : ChangeSpec := { name := "fnExactHartOk", fn := fun _ => fun
  | [d] => { results := [.lit (.bool true)], args := [d] }
  | _ => none }
def fnExactHartOkRow : OpenClaim := { program := "ytekpagfagciflaa", sum := "01043e9f0867e163fcdd0414a8126ab6d204d364fab9736fd021d92793cd0822", func := "loop.example/g00281/laws.FnExactHartOk", spec := "fnExactHartOk", unfollowed := true, recurses := true, apart := false }
def FnExactHartOkSaid : Prop := fnExactHartOkRow.holds Try.pinned (OpenSpec.ofChange fnExactHartOkSpec)

/-- ITS FALSE NEIGHBOUR: 'it returns false'. Refute it at one input. -/
def fnExactHartOkWrong : ChangeSpec := { name := "fnExactHartOk", fn := fun _ => fun
  | [d] => { results := [.lit (.bool false)], args := [d] }
  | _ => none }
def FnExactHartOkWrongFalsely : Prop := fnExactHartOkRow.holds Try.pinned (OpenSpec.ofChange fnExactHartOkWrong)

/-- 'laws.FnExactFrameOk': WHATEVER THE INPUT: true; the input reads as it did. -/
def fnExactFrameOkSpec : ChangeSpec := { name := "fnExactFrameOk", fn := fun _ => fun
  | [d] => { results := [.lit (.bool true)], args := [d] }
  | _ => none }
def fnExactFrameOkRow : OpenClaim := { program := "ytekpagfagciflaa", sum := "01043e9f0867e163fcdd0414a8126ab6d204d364fab9736fd021d92793cd0822", func := "loop.example/g00281/laws.FnExactFrameOk", spec := "fnExactFrameOk", unfollowed := true, recurses := true, apart := false }
def FnExactFrameOkSaid : Prop := fnExactFrameOkRow.holds Try.pinned (OpenSpec.ofChange fnExactFrameOkSpec)

/-- ITS FALSE NEIGHBOUR: 'it returns false'. Refute it at one input. -/
def fnExactFrameOkWrong : ChangeSpec := { name := "fnExactFrameOk", fn := fun _ => fun
  | [d] => { results := [.lit (.bool false)], args := [d] }
  | _ => none }
def FnExactFrameOkWrongFalsely : Prop := fnExactFrameOkRow.holds Try.pinned (OpenSpec.ofChange fnExactFrameOkWrong)

/-- 'laws.FnExactDecode': WHATEVER THE INPUT: true; the input reads as it did. -/
def fnExactDecodeSpec : ChangeSpec := { name := "fnExactDecode", fn := fun _ => fun
  | [d] => { results := [.lit (.bool true)], args := [d] }
  | _ => none }
def fnExactDecodeRow : OpenClaim := { program := "ytekpagfagciflaa", sum := "01043e9f0867e163fcdd0414a8126ab6d204d364fab9736fd021d92793cd0822", func := "loop.example/g00281/laws.FnExactDecode", spec := "fnExactDecode", apart := false }
def FnExactDecodeSaid : Prop := fnExactDecodeRow.holds Try.pinned (OpenSpec.ofChange fnExactDecodeSpec)

/-- ITS FALSE NEIGHBOUR: 'it returns false'. Refute it at one input. -/
def fnExactDecodeWrong : ChangeSpec := { name := "fnExactDecode", fn := fun _ => fun
  | [d] => { results := [.lit (.bool false)], args := [d] }
  | _ => none }
def FnExactDecodeWrongFalsely : Prop := fnExactDecodeRow.holds Try.pinned (OpenSpec.ofChange fnExactDecodeWrong)

/- THE SECOND FORM. 'bulk': how many values and letters a reading holds, each counted each time it is reached (what is shared counts as often as it is met; a slice's spare places count too). A statement '..UptoSaid' is the law's where the arguments, and the package variables that the reading takes, are together of bulk at most 1048576: NARROWER than '..Said'. Prove '..Said' where nothing that the law and all that it calls make is longer than what came in: it says more and counts as full. Else prove '..UptoSaid'. A law counts once. -/
mutual
def uptoBulk {H : Type} : DataW H → Nat
  | .lit (.string bytes) => bytes.length + 1
  | .lit _ => 1
  | .nil => 1
  | .ptr d => uptoBulk d + 1
  | .slice elems spare => uptoBulkAll elems + uptoBulkAll spare + 1
  | .agg parts => uptoBulkAll parts + 1
  | .iface _ d => uptoBulk d + 1
  | .map entries => uptoBulkEntries entries + 1
  | .held _ => 1
def uptoBulkAll {H : Type} : List (DataW H) → Nat
  | [] => 0
  | d :: r => uptoBulk d + uptoBulkAll r
def uptoBulkEntries {H : Type} : List (Lit × DataW H) → Nat
  | [] => 0
  | x :: r => uptoBulkEntry x + uptoBulkEntries r
def uptoBulkEntry {H : Type} : Lit × DataW H → Nat
  | (.string bytes, d) => bytes.length + uptoBulk d + 1
  | (_, d) => uptoBulk d + 1
 end
def uptoSmall : (H : Type) → List (DataW H) → Bool := fun _ ds => decide (uptoBulkAll ds ≤ 1048576)
def OpenSpec.upto (s : _root_.Go.ChangeSpec) : _root_.Go.OpenSpec := { _root_.Go.OpenSpec.ofChange s with cond := some uptoSmall }

/-- 'laws.FnExactConstants', WHERE WHAT IT READS IS OF BULK AT MOST 1048576: true; the input reads as it did. -/
def fnExactConstantsUptoRow : OpenClaim := { program := "ytekpagfagciflaa", sum := "01043e9f0867e163fcdd0414a8126ab6d204d364fab9736fd021d92793cd0822", func := "loop.example/g00281/laws.FnExactConstants", spec := "fnExactConstants", apart := false, narrowed := true }
def FnExactConstantsUptoSaid : Prop := fnExactConstantsUptoRow.holds Try.pinned (OpenSpec.upto fnExactConstantsSpec)

/-- 'laws.FnExactArrived', WHERE WHAT IT READS IS OF BULK AT MOST 1048576: true; the input reads as it did. -/
def fnExactArrivedUptoRow : OpenClaim := { program := "ytekpagfagciflaa", sum := "01043e9f0867e163fcdd0414a8126ab6d204d364fab9736fd021d92793cd0822", func := "loop.example/g00281/laws.FnExactArrived", spec := "fnExactArrived", apart := false, narrowed := true }
def FnExactArrivedUptoSaid : Prop := fnExactArrivedUptoRow.holds Try.pinned (OpenSpec.upto fnExactArrivedSpec)

/-- 'laws.FnExactPutNum', WHERE WHAT IT READS IS OF BULK AT MOST 1048576: true; the input reads as it did. -/
def fnExactPutNumUptoRow : OpenClaim := { program := "ytekpagfagciflaa", sum := "01043e9f0867e163fcdd0414a8126ab6d204d364fab9736fd021d92793cd0822", func := "loop.example/g00281/laws.FnExactPutNum", spec := "fnExactPutNum", apart := false, narrowed := true }
def FnExactPutNumUptoSaid : Prop := fnExactPutNumUptoRow.holds Try.pinned (OpenSpec.upto fnExactPutNumSpec)

/-- 'laws.FnExactGetNum', WHERE WHAT IT READS IS OF BULK AT MOST 1048576: true; the input reads as it did. -/
def fnExactGetNumUptoRow : OpenClaim := { program := "ytekpagfagciflaa", sum := "01043e9f0867e163fcdd0414a8126ab6d204d364fab9736fd021d92793cd0822", func := "loop.example/g00281/laws.FnExactGetNum", spec := "fnExactGetNum", apart := false, narrowed := true }
def FnExactGetNumUptoSaid : Prop := fnExactGetNumUptoRow.holds Try.pinned (OpenSpec.upto fnExactGetNumSpec)

/-- 'laws.FnExactHartNew', WHERE WHAT IT READS IS OF BULK AT MOST 1048576: true; the input reads as it did. -/
def fnExactHartNewUptoRow : OpenClaim := { program := "ytekpagfagciflaa", sum := "01043e9f0867e163fcdd0414a8126ab6d204d364fab9736fd021d92793cd0822", func := "loop.example/g00281/laws.FnExactHartNew", spec := "fnExactHartNew", apart := false, narrowed := true }
def FnExactHartNewUptoSaid : Prop := fnExactHartNewUptoRow.holds Try.pinned (OpenSpec.upto fnExactHartNewSpec)

/-- 'laws.FnExactInsOk', WHERE WHAT IT READS IS OF BULK AT MOST 1048576: true; the input reads as it did. -/
def fnExactInsOkUptoRow : OpenClaim := { program := "ytekpagfagciflaa", sum := "01043e9f0867e163fcdd0414a8126ab6d204d364fab9736fd021d92793cd0822", func := "loop.example/g00281/laws.FnExactInsOk", spec := "fnExactInsOk", apart := false, narrowed := true }
def FnExactInsOkUptoSaid : Prop := fnExactInsOkUptoRow.holds Try.pinned (OpenSpec.upto fnExactInsOkSpec)

/-- 'laws.FnExactEnds', WHERE WHAT IT READS IS OF BULK AT MOST 1048576: true; the input reads as it did. -/
def fnExactEndsUptoRow : OpenClaim := { program := "ytekpagfagciflaa", sum := "01043e9f0867e163fcdd0414a8126ab6d204d364fab9736fd021d92793cd0822", func := "loop.example/g00281/laws.FnExactEnds", spec := "fnExactEnds", apart := false, narrowed := true }
def FnExactEndsUptoSaid : Prop := fnExactEndsUptoRow.holds Try.pinned (OpenSpec.upto fnExactEndsSpec)

/-- 'laws.FnInOrder', WHERE WHAT IT READS IS OF BULK AT MOST 1048576: true; the input reads as it did. -/
def fnInOrderUptoRow : OpenClaim := { program := "ytekpagfagciflaa", sum := "01043e9f0867e163fcdd0414a8126ab6d204d364fab9736fd021d92793cd0822", func := "loop.example/g00281/laws.FnInOrder", spec := "fnInOrder", unfollowed := true, recurses := true, apart := false, narrowed := true }
def FnInOrderUptoSaid : Prop := fnInOrderUptoRow.holds Try.pinned (OpenSpec.upto fnInOrderSpec)

/-- 'laws.FnExactCode', WHERE WHAT IT READS IS OF BULK AT MOST 1048576: true; the input reads as it did. -/
def fnExactCodeUptoRow : OpenClaim := { program := "ytekpagfagciflaa", sum := "01043e9f0867e163fcdd0414a8126ab6d204d364fab9736fd021d92793cd0822", func := "loop.example/g00281/laws.FnExactCode", spec := "fnExactCode", apart := false, narrowed := true }
def FnExactCodeUptoSaid : Prop := fnExactCodeUptoRow.holds Try.pinned (OpenSpec.upto fnExactCodeSpec)

/-- 'laws.FnExactHartOk', WHERE WHAT IT READS IS OF BULK AT MOST 1048576: true; the input reads as it did. -/
def fnExactHartOkUptoRow : OpenClaim := { program := "ytekpagfagciflaa", sum := "01043e9f0867e163fcdd0414a8126ab6d204d364fab9736fd021d92793cd0822", func := "loop.example/g00281/laws.FnExactHartOk", spec := "fnExactHartOk", unfollowed := true, recurses := true, apart := false, narrowed := true }
def FnExactHartOkUptoSaid : Prop := fnExactHartOkUptoRow.holds Try.pinned (OpenSpec.upto fnExactHartOkSpec)

/-- 'laws.FnExactFrameOk', WHERE WHAT IT READS IS OF BULK AT MOST 1048576: true; the input reads as it did. -/
def fnExactFrameOkUptoRow : OpenClaim := { program := "ytekpagfagciflaa", sum := "01043e9f0867e163fcdd0414a8126ab6d204d364fab9736fd021d92793cd0822", func := "loop.example/g00281/laws.FnExactFrameOk", spec := "fnExactFrameOk", unfollowed := true, recurses := true, apart := false, narrowed := true }
def FnExactFrameOkUptoSaid : Prop := fnExactFrameOkUptoRow.holds Try.pinned (OpenSpec.upto fnExactFrameOkSpec)

/-- 'laws.FnExactDecode', WHERE WHAT IT READS IS OF BULK AT MOST 1048576: true; the input reads as it did. -/
def fnExactDecodeUptoRow : OpenClaim := { program := "ytekpagfagciflaa", sum := "01043e9f0867e163fcdd0414a8126ab6d204d364fab9736fd021d92793cd0822", func := "loop.example/g00281/laws.FnExactDecode", spec := "fnExactDecode", apart := false, narrowed := true }
def FnExactDecodeUptoSaid : Prop := fnExactDecodeUptoRow.holds Try.pinned (OpenSpec.upto fnExactDecodeSpec)

end Rows
end Go.Proofs.Ytekpagfagciflaa
