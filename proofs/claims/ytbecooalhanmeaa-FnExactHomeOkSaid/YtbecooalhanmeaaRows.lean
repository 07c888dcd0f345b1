/-
  No cell of these rows narrows 'for every input' (looked for: loops, veiled, ifaces, maps, wideKeys, modest, calm, conditions, laid).
  DERIVED. THE GIVEN ROWS OF THIS SEAT. 12 by the template 'for every input the law returns true; each argument reads behind the call as it read before'; 0 by the template 'total and deterministic' (their statements: YtbecooalhanmeaaTotals.lean).
  GIVEN WITH THE SEED: the statements are not yours to turn. If you find one false, say at which input.
  Laid BY PROGRAM, IN A SANDBOX (cutbox-rows.mjs): the forced cells as the released guide's own fill.sh prints them over the translation 01d5312f002682e6… (all of the seat's roots in one cut). By AI agents, Wed Nov 11 2026. No macro, syntax, notation, axiom, sorry.
-/
import Derived.Test.YtbecooalhanmeaaChecked
import GoSem.Claim
import GoSem.ClaimJoined
import GoSem.ClaimMapViews
import Derived.JoinedTies
import Derived.KernelRfl
namespace Go.Proofs.Ytbecooalhanmeaa
/- THE CELL 'sum', in the pinned program and in every row, IS THE sha256 OF THE DUMP (.gsa) THAT YtbecooalhanmeaaProg.lean LOADS. Nothing in Lean hashes anything: it is a label: what it is worth is what the hold of that sum in a sandbox is worth. -/
noncomputable def Try.pinned : Pinned := { name := "ytbecooalhanmeaa", sum := "01d5312f002682e609895219f53981202feb283fe2731c04c9a774ca3041912f", checked := Try.checked }
namespace Rows
def none {H : Type} : Left H := { results := [], args := [] }

/-- 'laws.FnExactMsgOk': WHATEVER THE INPUT: true; the input reads as it did. -/
def fnExactMsgOkSpec : ChangeSpec := { name := "fnExactMsgOk", fn := fun _ => fun
  | [d] => { results := [.lit (.bool true)], args := [d] }
  | _ => none }
def fnExactMsgOkRow : OpenClaim := { program := "ytbecooalhanmeaa", sum := "01d5312f002682e609895219f53981202feb283fe2731c04c9a774ca3041912f", func := "loop.example/g00281/laws.FnExactMsgOk", spec := "fnExactMsgOk", unfollowed := true, recurses := true, apart := false }
def FnExactMsgOkSaid : Prop := fnExactMsgOkRow.holds Try.pinned (OpenSpec.ofChange fnExactMsgOkSpec)

/-- ITS FALSE NEIGHBOUR: 'it returns false'. Refute it at one input. -/
def fnExactMsgOkWrong : ChangeSpec := { name := "fnExactMsgOk", fn := fun _ => fun
  | [d] => { results := [.lit (.bool false)], args := [d] }
  | _ => none }
def FnExactMsgOkWrongFalsely : Prop := fnExactMsgOkRow.holds Try.pinned (OpenSpec.ofChange fnExactMsgOkWrong)

/-- 'laws.FnExactFrameRead': WHATEVER THE INPUT: true; the input reads as it did. -/
def fnExactFrameReadSpec : ChangeSpec := { name := "fnExactFrameRead", fn := fun _ => fun
  | [d1, d2] => { results := [.lit (.bool true)], args := [d1, d2] }
  | _ => none }
def fnExactFrameReadRow : OpenClaim := { program := "ytbecooalhanmeaa", sum := "01d5312f002682e609895219f53981202feb283fe2731c04c9a774ca3041912f", func := "loop.example/g00281/laws.FnExactFrameRead", spec := "fnExactFrameRead", unfollowed := true, recurses := true, apart := false }
def FnExactFrameReadSaid : Prop := fnExactFrameReadRow.holds Try.pinned (OpenSpec.ofChange fnExactFrameReadSpec)

/-- ITS FALSE NEIGHBOUR: 'it returns false'. Refute it at one input. -/
def fnExactFrameReadWrong : ChangeSpec := { name := "fnExactFrameRead", fn := fun _ => fun
  | [d1, d2] => { results := [.lit (.bool false)], args := [d1, d2] }
  | _ => none }
def FnExactFrameReadWrongFalsely : Prop := fnExactFrameReadRow.holds Try.pinned (OpenSpec.ofChange fnExactFrameReadWrong)

/-- 'laws.FnExactTarget': WHATEVER THE INPUT: true; the input reads as it did. -/
def fnExactTargetSpec : ChangeSpec := { name := "fnExactTarget", fn := fun _ => fun
  | [d1, d2] => { results := [.lit (.bool true)], args := [d1, d2] }
  | _ => none }
def fnExactTargetRow : OpenClaim := { program := "ytbecooalhanmeaa", sum := "01d5312f002682e609895219f53981202feb283fe2731c04c9a774ca3041912f", func := "loop.example/g00281/laws.FnExactTarget", spec := "fnExactTarget", apart := false }
def FnExactTargetSaid : Prop := fnExactTargetRow.holds Try.pinned (OpenSpec.ofChange fnExactTargetSpec)

/-- ITS FALSE NEIGHBOUR: 'it returns false'. Refute it at one input. -/
def fnExactTargetWrong : ChangeSpec := { name := "fnExactTarget", fn := fun _ => fun
  | [d1, d2] => { results := [.lit (.bool false)], args := [d1, d2] }
  | _ => none }
def FnExactTargetWrongFalsely : Prop := fnExactTargetRow.holds Try.pinned (OpenSpec.ofChange fnExactTargetWrong)

/-- 'laws.FnExactFrameWrite': WHATEVER THE INPUT: true; the input reads as it did. -/
def fnExactFrameWriteSpec : ChangeSpec := { name := "fnExactFrameWrite", fn := fun _ => fun
  | [d1, d2, d3] => { results := [.lit (.bool true)], args := [d1, d2, d3] }
  | _ => none }
def fnExactFrameWriteRow : OpenClaim := { program := "ytbecooalhanmeaa", sum := "01d5312f002682e609895219f53981202feb283fe2731c04c9a774ca3041912f", func := "loop.example/g00281/laws.FnExactFrameWrite", spec := "fnExactFrameWrite", unfollowed := true, recurses := true, apart := false }
def FnExactFrameWriteSaid : Prop := fnExactFrameWriteRow.holds Try.pinned (OpenSpec.ofChange fnExactFrameWriteSpec)

/-- ITS FALSE NEIGHBOUR: 'it returns false'. Refute it at one input. -/
def fnExactFrameWriteWrong : ChangeSpec := { name := "fnExactFrameWrite", fn := fun _ => fun
  | [d1, d2, d3] => { results := [.lit (.bool false)], args := [d1, d2, d3] }
  | _ => none }
def FnExactFrameWriteWrongFalsely : Prop := fnExactFrameWriteRow.holds Try.pinned (OpenSpec.ofChange fnExactFrameWriteWrong)

/-- 'laws.FnExactPacketOk': WHATEVER THE INPUT: true; the input reads as it did. -/
def fnExactPacketOkSpec : ChangeSpec := { name := "fnExactPacketOk", fn := fun _ => fun
  | [d1, d2] => { results := [.lit (.bool true)], args := [d1, d2] }
  | _ => none }
def fnExactPacketOkRow : OpenClaim := { program := "ytbecooalhanmeaa", sum := "01d5312f002682e609895219f53981202feb283fe2731c04c9a774ca3041912f", func := "loop.example/g00281/laws.FnExactPacketOk", spec := "fnExactPacketOk", unfollowed := true, recurses := true, apart := false }
def FnExactPacketOkSaid : Prop := fnExactPacketOkRow.holds Try.pinned (OpenSpec.ofChange fnExactPacketOkSpec)

/-- ITS FALSE NEIGHBOUR: 'it returns false'. Refute it at one input. -/
def fnExactPacketOkWrong : ChangeSpec := { name := "fnExactPacketOk", fn := fun _ => fun
  | [d1, d2] => { results := [.lit (.bool false)], args := [d1, d2] }
  | _ => none }
def FnExactPacketOkWrongFalsely : Prop := fnExactPacketOkRow.holds Try.pinned (OpenSpec.ofChange fnExactPacketOkWrong)

/-- 'laws.FnExactHomeNew': WHATEVER THE INPUT: true; the input reads as it did. -/
def fnExactHomeNewSpec : ChangeSpec := { name := "fnExactHomeNew", fn := fun _ => fun
  | [d] => { results := [.lit (.bool true)], args := [d] }
  | _ => none }
def fnExactHomeNewRow : OpenClaim := { program := "ytbecooalhanmeaa", sum := "01d5312f002682e609895219f53981202feb283fe2731c04c9a774ca3041912f", func := "loop.example/g00281/laws.FnExactHomeNew", spec := "fnExactHomeNew", apart := false }
def FnExactHomeNewSaid : Prop := fnExactHomeNewRow.holds Try.pinned (OpenSpec.ofChange fnExactHomeNewSpec)

/-- ITS FALSE NEIGHBOUR: 'it returns false'. Refute it at one input. -/
def fnExactHomeNewWrong : ChangeSpec := { name := "fnExactHomeNew", fn := fun _ => fun
  | [d] => { results := [.lit (.bool false)], args := [d] }
  | _ => none }
def FnExactHomeNewWrongFalsely : Prop := fnExactHomeNewRow.holds Try.pinned (OpenSpec.ofChange fnExactHomeNewWrong)

/-- 'laws.FnExactBlockOk': WHATEVER THE INPUT: true; the input reads as it did. -/
def fnExactBlockOkSpec : ChangeSpec := { name := "fnExactBlockOk", fn := fun _ => fun
  | [d] => { results := [.lit (.bool true)], args := [d] }
  | _ => none }
def fnExactBlockOkRow : OpenClaim := { program := "ytbecooalhanmeaa", sum := "01d5312f002682e609895219f53981202feb283fe2731c04c9a774ca3041912f", func := "loop.example/g00281/laws.FnExactBlockOk", spec := "fnExactBlockOk", apart := false }
def FnExactBlockOkSaid : Prop := fnExactBlockOkRow.holds Try.pinned (OpenSpec.ofChange fnExactBlockOkSpec)

/-- ITS FALSE NEIGHBOUR: 'it returns false'. Refute it at one input. -/
def fnExactBlockOkWrong : ChangeSpec := { name := "fnExactBlockOk", fn := fun _ => fun
  | [d] => { results := [.lit (.bool false)], args := [d] }
  | _ => none }
def FnExactBlockOkWrongFalsely : Prop := fnExactBlockOkRow.holds Try.pinned (OpenSpec.ofChange fnExactBlockOkWrong)

/-- 'laws.FnExactSenderOk': WHATEVER THE INPUT: true; the input reads as it did. -/
def fnExactSenderOkSpec : ChangeSpec := { name := "fnExactSenderOk", fn := fun _ => fun
  | [d] => { results := [.lit (.bool true)], args := [d] }
  | _ => none }
def fnExactSenderOkRow : OpenClaim := { program := "ytbecooalhanmeaa", sum := "01d5312f002682e609895219f53981202feb283fe2731c04c9a774ca3041912f", func := "loop.example/g00281/laws.FnExactSenderOk", spec := "fnExactSenderOk", unfollowed := true, recurses := true, apart := false }
def FnExactSenderOkSaid : Prop := fnExactSenderOkRow.holds Try.pinned (OpenSpec.ofChange fnExactSenderOkSpec)

/-- ITS FALSE NEIGHBOUR: 'it returns false'. Refute it at one input. -/
def fnExactSenderOkWrong : ChangeSpec := { name := "fnExactSenderOk", fn := fun _ => fun
  | [d] => { results := [.lit (.bool false)], args := [d] }
  | _ => none }
def FnExactSenderOkWrongFalsely : Prop := fnExactSenderOkRow.holds Try.pinned (OpenSpec.ofChange fnExactSenderOkWrong)

/-- 'laws.FnExactAt': WHATEVER THE INPUT: true; the input reads as it did. -/
def fnExactAtSpec : ChangeSpec := { name := "fnExactAt", fn := fun _ => fun
  | [d1, d2] => { results := [.lit (.bool true)], args := [d1, d2] }
  | _ => none }
def fnExactAtRow : OpenClaim := { program := "ytbecooalhanmeaa", sum := "01d5312f002682e609895219f53981202feb283fe2731c04c9a774ca3041912f", func := "loop.example/g00281/laws.FnExactAt", spec := "fnExactAt", apart := false }
def FnExactAtSaid : Prop := fnExactAtRow.holds Try.pinned (OpenSpec.ofChange fnExactAtSpec)

/-- ITS FALSE NEIGHBOUR: 'it returns false'. Refute it at one input. -/
def fnExactAtWrong : ChangeSpec := { name := "fnExactAt", fn := fun _ => fun
  | [d1, d2] => { results := [.lit (.bool false)], args := [d1, d2] }
  | _ => none }
def FnExactAtWrongFalsely : Prop := fnExactAtRow.holds Try.pinned (OpenSpec.ofChange fnExactAtWrong)

/-- 'laws.FnExactPageOf': WHATEVER THE INPUT: true; the input reads as it did. -/
def fnExactPageOfSpec : ChangeSpec := { name := "fnExactPageOf", fn := fun _ => fun
  | [d] => { results := [.lit (.bool true)], args := [d] }
  | _ => none }
def fnExactPageOfRow : OpenClaim := { program := "ytbecooalhanmeaa", sum := "01d5312f002682e609895219f53981202feb283fe2731c04c9a774ca3041912f", func := "loop.example/g00281/laws.FnExactPageOf", spec := "fnExactPageOf", apart := false }
def FnExactPageOfSaid : Prop := fnExactPageOfRow.holds Try.pinned (OpenSpec.ofChange fnExactPageOfSpec)

/-- ITS FALSE NEIGHBOUR: 'it returns false'. Refute it at one input. -/
def fnExactPageOfWrong : ChangeSpec := { name := "fnExactPageOf", fn := fun _ => fun
  | [d] => { results := [.lit (.bool false)], args := [d] }
  | _ => none }
def FnExactPageOfWrongFalsely : Prop := fnExactPageOfRow.holds Try.pinned (OpenSpec.ofChange fnExactPageOfWrong)

/-- 'laws.FnExactHomeOk': WHATEVER THE INPUT: true; the input reads as it did. -/
def fnExactHomeOkSpec : ChangeSpec := { name := "fnExactHomeOk", fn := fun _ => fun
  | [d1, d2] => { results := [.lit (.bool true)], args := [d1, d2] }
  | _ => none }
def fnExactHomeOkRow : OpenClaim := { program := "ytbecooalhanmeaa", sum := "01d5312f002682e609895219f53981202feb283fe2731c04c9a774ca3041912f", func := "loop.example/g00281/laws.FnExactHomeOk", spec := "fnExactHomeOk", unfollowed := true, recurses := true, apart := false }
def FnExactHomeOkSaid : Prop := fnExactHomeOkRow.holds Try.pinned (OpenSpec.ofChange fnExactHomeOkSpec)

/-- ITS FALSE NEIGHBOUR: 'it returns false'. Refute it at one input. -/
def fnExactHomeOkWrong : ChangeSpec := { name := "fnExactHomeOk", fn := fun _ => fun
  | [d1, d2] => { results := [.lit (.bool false)], args := [d1, d2] }
  | _ => none }
def FnExactHomeOkWrongFalsely : Prop := fnExactHomeOkRow.holds Try.pinned (OpenSpec.ofChange fnExactHomeOkWrong)

/-- 'laws.FnExactCacheFind': WHATEVER THE INPUT: true; the input reads as it did. -/
def fnExactCacheFindSpec : ChangeSpec := { name := "fnExactCacheFind", fn := fun _ => fun
  | [d1, d2] => { results := [.lit (.bool true)], args := [d1, d2] }
  | _ => none }
def fnExactCacheFindRow : OpenClaim := { program := "ytbecooalhanmeaa", sum := "01d5312f002682e609895219f53981202feb283fe2731c04c9a774ca3041912f", func := "loop.example/g00281/laws.FnExactCacheFind", spec := "fnExactCacheFind", apart := false }
def FnExactCacheFindSaid : Prop := fnExactCacheFindRow.holds Try.pinned (OpenSpec.ofChange fnExactCacheFindSpec)

/-- ITS FALSE NEIGHBOUR: 'it returns false'. Refute it at one input. -/
def fnExactCacheFindWrong : ChangeSpec := { name := "fnExactCacheFind", fn := fun _ => fun
  | [d1, d2] => { results := [.lit (.bool false)], args := [d1, d2] }
  | _ => none }
def FnExactCacheFindWrongFalsely : Prop := fnExactCacheFindRow.holds Try.pinned (OpenSpec.ofChange fnExactCacheFindWrong)

/- THE SECOND FORM. 'bulk': how many values and letters a reading holds, each counted each time it is reached (what is shared counts as often as it is met; a slice's spare places count too). A statement '..UptoSaid' is the law's where the arguments, and the package variables that the reading takes, are together of bulk at most 1048576: NARROWER than '..Said'. Prove '..Said' where nothing that the law and all that it calls make is longer than what came in: it says more and counts as full. Else prove '..UptoSaid'. A law counts once. -/
mutual
def uptoBulk {H : Type} : DataW H → Nat
  | .lit (.string bytes) => bytes.length + 1
  | .lit _ => 1
  | .nil => 1
  | .ptr d => uptoBulk d + 1
  | .slice elems spare => uptoBulkAll elems + uptoBulkAll spare + 1
  | .agg parts => uptoBulkAll parts + 1
  | .iface _ d => uptoBulk d + 1
  | .map entries => uptoBulkEntries entries + 1
  | .held _ => 1
def uptoBulkAll {H : Type} : List (DataW H) → Nat
  | [] => 0
  | d :: r => uptoBulk d + uptoBulkAll r
def uptoBulkEntries {H : Type} : List (Lit × DataW H) → Nat
  | [] => 0
  | x :: r => uptoBulkEntry x + uptoBulkEntries r
def uptoBulkEntry {H : Type} : Lit × DataW H → Nat
  | (.string bytes, d) => bytes.length + uptoBulk d + 1
  | (_, d) => uptoBulk d + 1
 end
def uptoSmall : (H : Type) → List (DataW H) → Bool := fun _ ds => decide (uptoBulkAll ds ≤ 1048576)
def OpenSpec.upto (s : _root_.Go.ChangeSpec) : _root_.Go.OpenSpec := { _root_.Go.OpenSpec.ofChange s with cond := some uptoSmall }

/-- 'laws.FnExactMsgOk', WHERE WHAT IT READS IS OF BULK AT MOST 1048576: true; the input reads as it did. -/
def fnExactMsgOkUptoRow : OpenClaim := { program := "ytbecooalhanmeaa", sum := "01d5312f002682e609895219f53981202feb283fe2731c04c9a774ca3041912f", func := "loop.example/g00281/laws.FnExactMsgOk", spec := "fnExactMsgOk", unfollowed := true, recurses := true, apart := false, narrowed := true }
def FnExactMsgOkUptoSaid : Prop := fnExactMsgOkUptoRow.holds Try.pinned (OpenSpec.upto fnExactMsgOkSpec)

/-- 'laws.FnExactFrameRead', WHERE WHAT IT READS IS OF BULK AT MOST 1048576: true; the input reads as it did. -/
def fnExactFrameReadUptoRow : OpenClaim := { program := "ytbecooalhanmeaa", sum := "01d5312f002682e609895219f53981202feb283fe2731c04c9a774ca3041912f", func := "loop.example/g00281/laws.FnExactFrameRead", spec := "fnExactFrameRead", unfollowed := true, recurses := true, apart := false, narrowed := true }
def FnExactFrameReadUptoSaid : Prop := fnExactFrameReadUptoRow.holds Try.pinned (OpenSpec.upto fnExactFrameReadSpec)

/-- 'laws.FnExactTarget', WHERE WHAT IT READS IS OF BULK AT MOST 1048576: true; the input reads as it did. -/
def fnExactTargetUptoRow : OpenClaim := { program := "ytbecooalhanmeaa", sum := "01d5312f002682e609895219f53981202feb283fe2731c04c9a774ca3041912f", func := "loop.example/g00281/laws.FnExactTarget", spec := "fnExactTarget", apart := false, narrowed := true }
def FnExactTargetUptoSaid : Prop := fnExactTargetUptoRow.holds Try.pinned (OpenSpec.upto fnExactTargetSpec)

/-- 'laws.FnExactFrameWrite', WHERE WHAT IT READS IS OF BULK AT MOST 1048576: true; the input reads as it did. -/
def fnExactFrameWriteUptoRow : OpenClaim := { program := "ytbecooalhanmeaa", sum := "01d5312f002682e609895219f53981202feb283fe2731c04c9a774ca3041912f", func := "loop.example/g00281/laws.FnExactFrameWrite", spec := "fnExactFrameWrite", unfollowed := true, recurses := true, apart := false, narrowed := true }
def FnExactFrameWriteUptoSaid : Prop := fnExactFrameWriteUptoRow.holds Try.pinned (OpenSpec.upto fnExactFrameWriteSpec)

/-- 'laws.FnExactPacketOk', WHERE WHAT IT READS IS OF BULK AT MOST 1048576: true; the input reads as it did. -/
def fnExactPacketOkUptoRow : OpenClaim := { program := "ytbecooalhanmeaa", sum := "01d5312f002682e609895219f53981202feb283fe2731c04c9a774ca3041912f", func := "loop.example/g00281/laws.FnExactPacketOk", spec := "fnExactPacketOk", unfollowed := true, recurses := true, apart := false, narrowed := true }
def FnExactPacketOkUptoSaid : Prop := fnExactPacketOkUptoRow.holds Try.pinned (OpenSpec.upto fnExactPacketOkSpec)

/-- 'laws.FnExactHomeNew', WHERE WHAT IT READS IS OF BULK AT MOST 1048576: true; the input reads as it did. -/
def fnExactHomeNewUptoRow : OpenClaim := { program := "ytbecooalhanmeaa", sum := "01d5312f002682e609895219f53981202feb283fe2731c04c9a774ca3041912f", func := "loop.example/g00281/laws.FnExactHomeNew", spec := "fnExactHomeNew", apart := false, narrowed := true }
def FnExactHomeNewUptoSaid : Prop := fnExactHomeNewUptoRow.holds Try.pinned (OpenSpec.upto fnExactHomeNewSpec)

/-- 'laws.FnExactBlockOk', WHERE WHAT IT READS IS OF BULK AT MOST 1048576: true; the input reads as it did. -/
def fnExactBlockOkUptoRow : OpenClaim := { program := "ytbecooalhanmeaa", sum := "01d5312f002682e609895219f53981202feb283fe2731c04c9a774ca3041912f", func := "loop.example/g00281/laws.FnExactBlockOk", spec := "fnExactBlockOk", apart := false, narrowed := true }
def FnExactBlockOkUptoSaid : Prop := fnExactBlockOkUptoRow.holds Try.pinned (OpenSpec.upto fnExactBlockOkSpec)

/-- 'laws.FnExactSenderOk', WHERE WHAT IT READS IS OF BULK AT MOST 1048576: true; the input reads as it did. -/
def fnExactSenderOkUptoRow : OpenClaim := { program := "ytbecooalhanmeaa", sum := "01d5312f002682e609895219f53981202feb283fe2731c04c9a774ca3041912f", func := "loop.example/g00281/laws.FnExactSenderOk", spec := "fnExactSenderOk", unfollowed := true, recurses := true, apart := false, narrowed := true }
def FnExactSenderOkUptoSaid : Prop := fnExactSenderOkUptoRow.holds Try.pinned (OpenSpec.upto fnExactSenderOkSpec)

/-- 'laws.FnExactAt', WHERE WHAT IT READS IS OF BULK AT MOST 1048576: true; the input reads as it did. -/
def fnExactAtUptoRow : OpenClaim := { program := "ytbecooalhanmeaa", sum := "01d5312f002682e609895219f53981202feb283fe2731c04c9a774ca3041912f", func := "loop.example/g00281/laws.FnExactAt", spec := "fnExactAt", apart := false, narrowed := true }
def FnExactAtUptoSaid : Prop := fnExactAtUptoRow.holds Try.pinned (OpenSpec.upto fnExactAtSpec)

/-- 'laws.FnExactPageOf', WHERE WHAT IT READS IS OF BULK AT MOST 1048576: true; the input reads as it did. -/
def fnExactPageOfUptoRow : OpenClaim := { program := "ytbecooalhanmeaa", sum := "01d5312f002682e609895219f53981202feb283fe2731c04c9a774ca3041912f", func := "loop.example/g00281/laws.FnExactPageOf", spec := "fnExactPageOf", apart := false, narrowed := true }
def FnExactPageOfUptoSaid : Prop := fnExactPageOfUptoRow.holds Try.pinned (OpenSpec.upto fnExactPageOfSpec)

/-- 'laws.FnExactHomeOk', WHERE WHAT IT READS IS OF BULK AT MOST 1048576: true; the input reads as it did. -/
def fnExactHomeOkUptoRow : OpenClaim := { program := "ytbecooalhanmeaa", sum := "01d5312f002682e609895219f53981202feb283fe2731c04c9a774ca3041912f", func := "loop.example/g00281/laws.FnExactHomeOk", spec := "fnExactHomeOk", unfollowed := true, recurses := true, apart := false, narrowed := true }
def FnExactHomeOkUptoSaid : Prop := fnExactHomeOkUptoRow.holds Try.pinned (OpenSpec.upto fnExactHomeOkSpec)

/-- 'laws.FnExactCacheFind', WHERE WHAT IT READS IS OF BULK AT MOST 1048576: true; the input reads as it did. -/
def fnExactCacheFindUptoRow : OpenClaim := { program := "ytbecooalhanmeaa", sum := "01d5312f002682e609895219f53981202feb283fe2731c04c9a774ca3041912f", func := "loop.example/g00281/laws.FnExactCacheFind", spec := "fnExactCacheFind", apart := false, narrowed := true }
def FnExactCacheFindUptoSaid : Prop := fnExactCacheFindUptoRow.holds Try.pinned (OpenSpec.upto fnExactCacheFindSpec)

end Rows
end Go.Proofs.Ytbecooalhanmeaa
