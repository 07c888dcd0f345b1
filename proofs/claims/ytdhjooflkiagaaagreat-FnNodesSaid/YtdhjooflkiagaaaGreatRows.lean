/-
  No cell of these rows narrows 'for every input' (looked for: loops, veiled, ifaces, maps, wideKeys, modest, calm, conditions, laid).
  DERIVED. THE GIVEN ROWS OF THIS SEAT. 8 by the template 'for every input the law returns true; each argument reads behind the call as it read before'; 0 by the template 'total and deterministic' (their statements: YtdhjooflkiagaaaGreatTotals.lean).
  GIVEN WITH THE SEED: the statements are not yours to turn. If you find one false, say at which input.
  Laid BY PROGRAM, IN A SANDBOX (cutbox-rows.mjs): the forced cells as the released guide's own fill.sh prints them over the translation 2b30d630afb0c38d… (all of the seat's roots in one cut). By AI agents, Wed Nov 11 2026. No macro, syntax, notation, axiom, sorry.
-/
import Derived.Test.YtdhjooflkiagaaaGreatChecked
import GoSem.Claim
import GoSem.ClaimJoined
import GoSem.ClaimMapViews
import Derived.JoinedTies
import Derived.KernelRfl
namespace Go.Proofs.YtdhjooflkiagaaaGreat
/- THE CELL 'sum', in the pinned program and in every row, IS THE sha256 OF THE DUMP (.gsa) THAT YtdhjooflkiagaaaGreatProg.lean LOADS. Nothing in Lean hashes anything: it is a label: what it is worth is what the hold of that sum in a sandbox is worth. -/
noncomputable def Tryz.pinned : Pinned := { name := "ytdhjooflkiagaaagreat", sum := "2b30d630afb0c38d2f4ccacbbb105f3c90cc0ffef9d2e24458111c374e348343", checked := Tryz.checked }
namespace Rows
def none {H : Type} : Left H := { results := [], args := [] }

/-- 'laws.FnExactAlone': WHATEVER THE INPUT: true; the input reads as it did. -/
def fnExactAloneSpec : ChangeSpec := { name := "fnExactAlone", fn := fun _ => fun
  | [d1, d2] => { results := [.lit (.bool true)], args := [d1, d2] }
  | _ => none }
def fnExactAloneRow : OpenClaim := { program := "ytdhjooflkiagaaagreat", sum := "2b30d630afb0c38d2f4ccacbbb105f3c90cc0ffef9d2e24458111c374e348343", func := "loop.example/g00281/laws.FnExactAlone", spec := "fnExactAlone", unfollowed := true, recurses := true, apart := false }
def FnExactAloneSaid : Prop := fnExactAloneRow.holds Tryz.pinned (OpenSpec.ofChange fnExactAloneSpec)

/-- ITS FALSE NEIGHBOUR: 'it returns false'. Refute it at one input. -/
def fnExactAloneWrong : ChangeSpec := { name := "fnExactAlone", fn := fun _ => fun
  | [d1, d2] => { results := [.lit (.bool false)], args := [d1, d2] }
  | _ => none }
def FnExactAloneWrongFalsely : Prop := fnExactAloneRow.holds Tryz.pinned (OpenSpec.ofChange fnExactAloneWrong)

/-- 'laws.FnExactSane': WHATEVER THE INPUT: true; the input reads as it did. -/
def fnExactSaneSpec : ChangeSpec := { name := "fnExactSane", fn := fun _ => fun
  | [d] => { results := [.lit (.bool true)], args := [d] }
  | _ => none }
def fnExactSaneRow : OpenClaim := { program := "ytdhjooflkiagaaagreat", sum := "2b30d630afb0c38d2f4ccacbbb105f3c90cc0ffef9d2e24458111c374e348343", func := "loop.example/g00281/laws.FnExactSane", spec := "fnExactSane", unfollowed := true, recurses := true, apart := false }
def FnExactSaneSaid : Prop := fnExactSaneRow.holds Tryz.pinned (OpenSpec.ofChange fnExactSaneSpec)

/-- ITS FALSE NEIGHBOUR: 'it returns false'. Refute it at one input. -/
def fnExactSaneWrong : ChangeSpec := { name := "fnExactSane", fn := fun _ => fun
  | [d] => { results := [.lit (.bool false)], args := [d] }
  | _ => none }
def FnExactSaneWrongFalsely : Prop := fnExactSaneRow.holds Tryz.pinned (OpenSpec.ofChange fnExactSaneWrong)

/-- 'laws.FnExactWant': WHATEVER THE INPUT: true; the input reads as it did. -/
def fnExactWantSpec : ChangeSpec := { name := "fnExactWant", fn := fun _ => fun
  | [d1, d2, d3, d4] => { results := [.lit (.bool true)], args := [d1, d2, d3, d4] }
  | _ => none }
def fnExactWantRow : OpenClaim := { program := "ytdhjooflkiagaaagreat", sum := "2b30d630afb0c38d2f4ccacbbb105f3c90cc0ffef9d2e24458111c374e348343", func := "loop.example/g00281/laws.FnExactWant", spec := "fnExactWant", unfollowed := true, recurses := true, apart := false }
def FnExactWantSaid : Prop := fnExactWantRow.holds Tryz.pinned (OpenSpec.ofChange fnExactWantSpec)

/-- ITS FALSE NEIGHBOUR: 'it returns false'. Refute it at one input. -/
def fnExactWantWrong : ChangeSpec := { name := "fnExactWant", fn := fun _ => fun
  | [d1, d2, d3, d4] => { results := [.lit (.bool false)], args := [d1, d2, d3, d4] }
  | _ => none }
def FnExactWantWrongFalsely : Prop := fnExactWantRow.holds Tryz.pinned (OpenSpec.ofChange fnExactWantWrong)

/-- 'laws.FnExactComing': WHATEVER THE INPUT: true; the input reads as it did. -/
def fnExactComingSpec : ChangeSpec := { name := "fnExactComing", fn := fun _ => fun
  | [d1, d2, d3] => { results := [.lit (.bool true)], args := [d1, d2, d3] }
  | _ => none }
def fnExactComingRow : OpenClaim := { program := "ytdhjooflkiagaaagreat", sum := "2b30d630afb0c38d2f4ccacbbb105f3c90cc0ffef9d2e24458111c374e348343", func := "loop.example/g00281/laws.FnExactComing", spec := "fnExactComing", unfollowed := true, recurses := true, apart := false }
def FnExactComingSaid : Prop := fnExactComingRow.holds Tryz.pinned (OpenSpec.ofChange fnExactComingSpec)

/-- ITS FALSE NEIGHBOUR: 'it returns false'. Refute it at one input. -/
def fnExactComingWrong : ChangeSpec := { name := "fnExactComing", fn := fun _ => fun
  | [d1, d2, d3] => { results := [.lit (.bool false)], args := [d1, d2, d3] }
  | _ => none }
def FnExactComingWrongFalsely : Prop := fnExactComingRow.holds Tryz.pinned (OpenSpec.ofChange fnExactComingWrong)

/-- 'laws.FnTruth': WHATEVER THE INPUT: true; the input reads as it did. -/
def fnTruthSpec : ChangeSpec := { name := "fnTruth", fn := fun _ => fun
  | [d] => { results := [.lit (.bool true)], args := [d] }
  | _ => none }
def fnTruthRow : OpenClaim := { program := "ytdhjooflkiagaaagreat", sum := "2b30d630afb0c38d2f4ccacbbb105f3c90cc0ffef9d2e24458111c374e348343", func := "loop.example/g00281/laws.FnTruth", spec := "fnTruth", unfollowed := true, recurses := true, apart := false }
def FnTruthSaid : Prop := fnTruthRow.holds Tryz.pinned (OpenSpec.ofChange fnTruthSpec)

/-- ITS FALSE NEIGHBOUR: 'it returns false'. Refute it at one input. -/
def fnTruthWrong : ChangeSpec := { name := "fnTruth", fn := fun _ => fun
  | [d] => { results := [.lit (.bool false)], args := [d] }
  | _ => none }
def FnTruthWrongFalsely : Prop := fnTruthRow.holds Tryz.pinned (OpenSpec.ofChange fnTruthWrong)

/-- 'laws.FnExactTruth': WHATEVER THE INPUT: true; the input reads as it did. -/
def fnExactTruthSpec : ChangeSpec := { name := "fnExactTruth", fn := fun _ => fun
  | [d1, d2] => { results := [.lit (.bool true)], args := [d1, d2] }
  | _ => none }
def fnExactTruthRow : OpenClaim := { program := "ytdhjooflkiagaaagreat", sum := "2b30d630afb0c38d2f4ccacbbb105f3c90cc0ffef9d2e24458111c374e348343", func := "loop.example/g00281/laws.FnExactTruth", spec := "fnExactTruth", unfollowed := true, recurses := true, apart := false }
def FnExactTruthSaid : Prop := fnExactTruthRow.holds Tryz.pinned (OpenSpec.ofChange fnExactTruthSpec)

/-- ITS FALSE NEIGHBOUR: 'it returns false'. Refute it at one input. -/
def fnExactTruthWrong : ChangeSpec := { name := "fnExactTruth", fn := fun _ => fun
  | [d1, d2] => { results := [.lit (.bool false)], args := [d1, d2] }
  | _ => none }
def FnExactTruthWrongFalsely : Prop := fnExactTruthRow.holds Tryz.pinned (OpenSpec.ofChange fnExactTruthWrong)

/-- 'laws.FnNodes': WHATEVER THE INPUT: true; the input reads as it did. -/
def fnNodesSpec : ChangeSpec := { name := "fnNodes", fn := fun _ => fun
  | [d] => { results := [.lit (.bool true)], args := [d] }
  | _ => none }
def fnNodesRow : OpenClaim := { program := "ytdhjooflkiagaaagreat", sum := "2b30d630afb0c38d2f4ccacbbb105f3c90cc0ffef9d2e24458111c374e348343", func := "loop.example/g00281/laws.FnNodes", spec := "fnNodes", unfollowed := true, recurses := true, apart := false }
def FnNodesSaid : Prop := fnNodesRow.holds Tryz.pinned (OpenSpec.ofChange fnNodesSpec)

/-- ITS FALSE NEIGHBOUR: 'it returns false'. Refute it at one input. -/
def fnNodesWrong : ChangeSpec := { name := "fnNodes", fn := fun _ => fun
  | [d] => { results := [.lit (.bool false)], args := [d] }
  | _ => none }
def FnNodesWrongFalsely : Prop := fnNodesRow.holds Tryz.pinned (OpenSpec.ofChange fnNodesWrong)

/-- 'laws.FnExactNodeHear': WHATEVER THE INPUT: true; the input reads as it did. -/
def fnExactNodeHearSpec : ChangeSpec := { name := "fnExactNodeHear", fn := fun _ => fun
  | [d1, d2, d3, d4] => { results := [.lit (.bool true)], args := [d1, d2, d3, d4] }
  | _ => none }
def fnExactNodeHearRow : OpenClaim := { program := "ytdhjooflkiagaaagreat", sum := "2b30d630afb0c38d2f4ccacbbb105f3c90cc0ffef9d2e24458111c374e348343", func := "loop.example/g00281/laws.FnExactNodeHear", spec := "fnExactNodeHear", unfollowed := true, recurses := true, apart := false }
def FnExactNodeHearSaid : Prop := fnExactNodeHearRow.holds Tryz.pinned (OpenSpec.ofChange fnExactNodeHearSpec)

/-- ITS FALSE NEIGHBOUR: 'it returns false'. Refute it at one input. -/
def fnExactNodeHearWrong : ChangeSpec := { name := "fnExactNodeHear", fn := fun _ => fun
  | [d1, d2, d3, d4] => { results := [.lit (.bool false)], args := [d1, d2, d3, d4] }
  | _ => none }
def FnExactNodeHearWrongFalsely : Prop := fnExactNodeHearRow.holds Tryz.pinned (OpenSpec.ofChange fnExactNodeHearWrong)

/- THE SECOND FORM. 'bulk': how many values and letters a reading holds, each counted each time it is reached (what is shared counts as often as it is met; a slice's spare places count too). A statement '..UptoSaid' is the law's where the arguments, and the package variables that the reading takes, are together of bulk at most 1048576: NARROWER than '..Said'. Prove '..Said' where nothing that the law and all that it calls make is longer than what came in: it says more and counts as full. Else prove '..UptoSaid'. A law counts once. -/
mutual
def uptoBulk {H : Type} : DataW H → Nat
  | .lit (.string bytes) => bytes.length + 1
  | .lit _ => 1
  | .nil => 1
  | .ptr d => uptoBulk d + 1
  | .slice elems spare => uptoBulkAll elems + uptoBulkAll spare + 1
  | .agg parts => uptoBulkAll parts + 1
  | .iface _ d => uptoBulk d + 1
  | .map entries => uptoBulkEntries entries + 1
  | .held _ => 1
def uptoBulkAll {H : Type} : List (DataW H) → Nat
  | [] => 0
  | d :: r => uptoBulk d + uptoBulkAll r
def uptoBulkEntries {H : Type} : List (Lit × DataW H) → Nat
  | [] => 0
  | x :: r => uptoBulkEntry x + uptoBulkEntries r
def uptoBulkEntry {H : Type} : Lit × DataW H → Nat
  | (.string bytes, d) => bytes.length + uptoBulk d + 1
  | (_, d) => uptoBulk d + 1
 end
def uptoSmall : (H : Type) → List (DataW H) → Bool := fun _ ds => decide (uptoBulkAll ds ≤ 1048576)
def OpenSpec.upto (s : _root_.Go.ChangeSpec) : _root_.Go.OpenSpec := { _root_.Go.OpenSpec.ofChange s with cond := some uptoSmall }

/-- 'laws.FnExactAlone', WHERE WHAT IT READS IS OF BULK AT MOST 1048576: true; the input reads as it did. -/
def fnExactAloneUptoRow : OpenClaim := { program := "ytdhjooflkiagaaagreat", sum := "2b30d630afb0c38d2f4ccacbbb105f3c90cc0ffef9d2e24458111c374e348343", func := "loop.example/g00281/laws.FnExactAlone", spec := "fnExactAlone", unfollowed := true, recurses := true, apart := false, narrowed := true }
def FnExactAloneUptoSaid : Prop := fnExactAloneUptoRow.holds Tryz.pinned (OpenSpec.upto fnExactAloneSpec)

/-- 'laws.FnExactSane', WHERE WHAT IT READS IS OF BULK AT MOST 1048576: true; the input reads as it did. -/
def fnExactSaneUptoRow : OpenClaim := { program := "ytdhjooflkiagaaagreat", sum := "2b30d630afb0c38d2f4ccacbbb105f3c90cc0ffef9d2e24458111c374e348343", func := "loop.example/g00281/laws.FnExactSane", spec := "fnExactSane", unfollowed := true, recurses := true, apart := false, narrowed := true }
def FnExactSaneUptoSaid : Prop := fnExactSaneUptoRow.holds Tryz.pinned (OpenSpec.upto fnExactSaneSpec)

/-- 'laws.FnExactWant', WHERE WHAT IT READS IS OF BULK AT MOST 1048576: true; the input reads as it did. -/
def fnExactWantUptoRow : OpenClaim := { program := "ytdhjooflkiagaaagreat", sum := "2b30d630afb0c38d2f4ccacbbb105f3c90cc0ffef9d2e24458111c374e348343", func := "loop.example/g00281/laws.FnExactWant", spec := "fnExactWant", unfollowed := true, recurses := true, apart := false, narrowed := true }
def FnExactWantUptoSaid : Prop := fnExactWantUptoRow.holds Tryz.pinned (OpenSpec.upto fnExactWantSpec)

/-- 'laws.FnExactComing', WHERE WHAT IT READS IS OF BULK AT MOST 1048576: true; the input reads as it did. -/
def fnExactComingUptoRow : OpenClaim := { program := "ytdhjooflkiagaaagreat", sum := "2b30d630afb0c38d2f4ccacbbb105f3c90cc0ffef9d2e24458111c374e348343", func := "loop.example/g00281/laws.FnExactComing", spec := "fnExactComing", unfollowed := true, recurses := true, apart := false, narrowed := true }
def FnExactComingUptoSaid : Prop := fnExactComingUptoRow.holds Tryz.pinned (OpenSpec.upto fnExactComingSpec)

/-- 'laws.FnTruth', WHERE WHAT IT READS IS OF BULK AT MOST 1048576: true; the input reads as it did. -/
def fnTruthUptoRow : OpenClaim := { program := "ytdhjooflkiagaaagreat", sum := "2b30d630afb0c38d2f4ccacbbb105f3c90cc0ffef9d2e24458111c374e348343", func := "loop.example/g00281/laws.FnTruth", spec := "fnTruth", unfollowed := true, recurses := true, apart := false, narrowed := true }
def FnTruthUptoSaid : Prop := fnTruthUptoRow.holds Tryz.pinned (OpenSpec.upto fnTruthSpec)

/-- 'laws.FnExactTruth', WHERE WHAT IT READS IS OF BULK AT MOST 1048576: true; the input reads as it did. -/
def fnExactTruthUptoRow : OpenClaim := { program := "ytdhjooflkiagaaagreat", sum := "2b30d630afb0c38d2f4ccacbbb105f3c90cc0ffef9d2e24458111c374e348343", func := "loop.example/g00281/laws.FnExactTruth", spec := "fnExactTruth", unfollowed := true, recurses := true, apart := false, narrowed := true }
def FnExactTruthUptoSaid : Prop := fnExactTruthUptoRow.holds Tryz.pinned (OpenSpec.upto fnExactTruthSpec)

/-- 'laws.FnNodes', WHERE WHAT IT READS IS OF BULK AT MOST 1048576: true; the input reads as it did. -/
def fnNodesUptoRow : OpenClaim := { program := "ytdhjooflkiagaaagreat", sum := "2b30d630afb0c38d2f4ccacbbb105f3c90cc0ffef9d2e24458111c374e348343", func := "loop.example/g00281/laws.FnNodes", spec := "fnNodes", unfollowed := true, recurses := true, apart := false, narrowed := true }
def FnNodesUptoSaid : Prop := fnNodesUptoRow.holds Tryz.pinned (OpenSpec.upto fnNodesSpec)

/-- 'laws.FnExactNodeHear', WHERE WHAT IT READS IS OF BULK AT MOST 1048576: true; the input reads as it did. -/
def fnExactNodeHearUptoRow : OpenClaim := { program := "ytdhjooflkiagaaagreat", sum := "2b30d630afb0c38d2f4ccacbbb105f3c90cc0ffef9d2e24458111c374e348343", func := "loop.example/g00281/laws.FnExactNodeHear", spec := "fnExactNodeHear", unfollowed := true, recurses := true, apart := false, narrowed := true }
def FnExactNodeHearUptoSaid : Prop := fnExactNodeHearUptoRow.holds Tryz.pinned (OpenSpec.upto fnExactNodeHearSpec)

end Rows
end Go.Proofs.YtdhjooflkiagaaaGreat
